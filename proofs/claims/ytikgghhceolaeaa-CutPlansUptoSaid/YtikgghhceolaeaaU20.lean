/-
  The statement of CutPlans, out of what the abstract machine says of it (by wip/tools/bridge7.py).
-/
import Derived.Test.YtikgghhceolaeaaU19
set_option linter.unusedSimpArgs false
set_option linter.unusedVariables false
namespace Go.AM
open Go.Proofs.Try Go.RowKit Go.ChangeShapes Go.WideShapes Go.ChangeAt
open Go.Proofs.Ytikgghhceolaeaa
set_option maxRecDepth 100000
theorem cutPlans_contract (hrun : ∀ {base : Nat} {h : Heap} {v0 v1 : AVal}, RibN 1048576 h v0 → CtsN 1048576 h v1 →  callL prog raw base (.fn 5 [] []) [v0, v1] h = some (.bool true, h))
    (H : Type) (enc : TypeId × Value → H) (W : World) (base : Nat) (args : Array Value) (ds gs : List (DataW H)) (before : List MemPlace)
    (hval : ∀ (j : Nat) t v, f5.params[j]? = some t → args[j]? = some v → Value.okWide prog W .any base t v)
    (hW : DataW.Whole enc prog f5.params.toList Rows.cutPlansSpec.vars false W args.toList ds gs before) (hk : Rows.uptoSmall H (ds ++ gs) = true) :
    Calls prog 5 args W fun e W' => ∃ v, e = .returned v ∧ Rows.cutPlansSpec.post enc prog f5 false true false false W args v W' := by
  have hW' := hW
  obtain ⟨p, q, hA0, hV, rfl, hfz, hnd⟩ := hW
  obtain ⟨rfl, rfl⟩ := trodVars_none hV
  have hA : DataW.TrodAll enc prog W 0 (fun _ => true) true f5.params.toList args.toList ds p := hA0
  rw [params5] at hA hval
  obtain ⟨V0, vs0, d0, ds0, p0, q0, hargs, rfl, rfl, h0, r0⟩ := trodAll_cons hA
  obtain ⟨V1, vs1, d1, ds1, p1, q1, rfl, rfl, rfl, h1, r1⟩ := trodAll_cons r0
  obtain ⟨rfl, rfl, rfl⟩ := trodAll_nil r1
  obtain rfl : args = #[V0, V1] := by cases args; simp_all
  have hb := of_decide_eq_true hk
  simp only [List.append_nil, Rows.uptoBulkAll] at hb
  obtain ⟨S, vs, hok, hvr, hq⟩ := (opens_cons (Q := RibN 1048576) (opens_rib (N := 1048576) (by decide) (hval 0 25 V0 rfl rfl) h0 (by omega)) (opens_cons (Q := CtsN 1048576) (opens_cuts (N := 1048576) (by decide) (hval 1 43 V1 rfl rfl) h1 (by omega)) opens_nil (fun _ _ _ h e => h.ext e)) (fun _ _ _ h e => h.ext e)) [] (fun x hx => by cases hx)
  obtain ⟨v0, _, rfl, k0, v1, _, rfl, k1, rfl⟩ := hq
  have hc := calls_trueG (f := 5) (A := #[V0, V1]) hok hvr (hrun (k0) (k1))
  have hrd : ∀ t ∈ f5.params.toList, prog.readableRec t = true ∧ t < prog.types.size := by
    rw [params5]
    intro t ht
    simp only [List.mem_cons, List.not_mem_nil, or_false] at ht
    rcases ht with rfl | rfl
    all_goals exact ⟨by kernel_rfl, of_decide_eq_true (by kernel_rfl)⟩
  refine hc.mono fun e W' ⟨he, hbel⟩ => ?_
  subst he
  exact ⟨_, rfl, post_below laid hrd hbel rfl hW' (fun _ _ _ => trodAll_cons_mk (shut_bool underlying4 _) trodAll_mk0) rfl rfl (ok_one (by kernel_rfl) rfl (okWide_bool_mk underlying4 _))⟩
theorem cutPlans_lifted (hrun : ∀ {base : Nat} {h : Heap} {v0 v1 : AVal}, RibN 1048576 h v0 → CtsN 1048576 h v1 →  callL prog raw base (.fn 5 [] []) [v0, v1] h = some (.bool true, h))
    (os : Os) (started : os.Started) (H : Type) (enc : TypeId × Value → H) (F : Stop.Interp) :
    ReturnsInHanded {} Go.Proofs.Try.checked os 5 .any ((Rows.OpenSpec.upto Rows.cutPlansSpec).pre6 enc prog f5 Rows.cutPlansUptoRow.domain false) (((Rows.OpenSpec.upto Rows.cutPlansSpec).at F).post enc prog f5 false true false false) := by
  refine returnsInHanded_of_cond (C := Go.Proofs.Try.checked) (s := Rows.OpenSpec.upto Rows.cutPlansSpec) (k := Rows.uptoSmall) rfl own started (by kernel_rfl) func5
    (OpenSpec.witness (enc := enc) (C := Go.Proofs.Try.checked) (s := Rows.OpenSpec.upto Rows.cutPlansSpec) (k := Rows.uptoSmall) rfl false ⟨#[], #[.agg #[.int .i64 0, .slice none 0 0, .slice none 0 0], .slice none 0 0], []⟩ 8 (by kernel_rfl) (by kernel_rfl) (by kernel_rfl)
      (x := ([.agg [.lit (.int .i64 0), .nil, .nil], .nil], [], [])) (by kernel_rfl) rfl (by kernel_rfl)) ?_
  intro W base args ds gs before hval hW _ hk _
  exact cutPlans_contract hrun H enc W base args ds gs before hval hW hk
theorem cutPlans_over (hrun : ∀ {base : Nat} {h : Heap} {v0 v1 : AVal}, RibN 1048576 h v0 → CtsN 1048576 h v1 →  callL prog raw base (.fn 5 [] []) [v0, v1] h = some (.bool true, h)) :
    Rows.CutPlansUptoSaid :=
  OpenClaim.holds_of_cond 5 f5 rfl rfl rfl rfl rfl rfl rfl ⟨rfl, rfl, rfl, rfl, rfl⟩ rfl rfl rfl rfl rfl (by kernel_rfl) func5 (by kernel_rfl)
    (of_decide_eq_true (by kernel_rfl)) (by unfold Func.isWrapper; first | (rw [if_pos (by decide +kernel)]; kernel_rfl) | (rw [if_neg (by decide +kernel)]; exact ⟨rfl, rfl⟩))
    (fun os started H enc _ F => cutPlans_lifted hrun os started H enc F)
end Go.AM
/-
  The reference: what a plan earns (Plan).
-/
namespace Go.AM
open Go.Proofs.Try
theorem dschN30 {p : Prop} (h : p := by first | exact Nat.ne_of_beq_eq_false rfl | assumption | (apply asOne; (first | exact One.int | exact One.bool | assumption | exact Ints.one (by assumption) | exact Rows.one (by assumption) | exact Own.one (by assumption) | exact One.lit ⟨rfl, rfl, rfl⟩)) | (apply asInts; (repeat first | assumption | exact ints_nil | apply Ints.app); done) | (apply asRows; (repeat first | assumption | exact Rows.nil | apply Rows.app); done) | (apply asScal; (first | apply allS1 | apply allS2 | apply allS3 | apply allS4) <;> (first | exact One.int | exact One.bool | assumption | exact Ints.one (by assumption) | exact Rows.one (by assumption) | exact Own.one (by assumption) | exact One.lit ⟨rfl, rfl, rfl⟩)) | exact litT rfl | exact litF rfl | omega | (simp only [List.length_append, List.length_cons, List.length_nil, List.length_set, List.length_reverse]; first | done | omega) | fail) : p := h
attribute [-go_sem] put_ne put_same
attribute [local go_sem ↓] put_if
section
variable {h : Heap} {pv : AVal} {P : List Ct} {i : Nat} {c : Ct}
theorem rct_len (hR : Rows encC h pv P) : lenOpA prog h 61 pv = some (.int .i64 (P.length : Int)) := hR.len (P := prog) Fc.el61
theorem rct_ad (hR : Rows encC h pv P) (hi : i < P.length) : indexAddrA prog 61 pv (.int .i64 (i : Int)) = some (elAdr pv encC.z i 0) := by
  have := hR.addr (P := prog) (i := (i : Int)) Fc.el61 Fc.ar61 (by omega) (by omega)
  rwa [Int.toNat_natCast] at this
theorem rct_ld (hR : Rows encC h pv P) (hx : P[i]? = some c) : loadP prog h 80 (elAdr pv encC.z i 0) = some (.agg [.int .i64 c.w, .int .i64 c.f, .bool c.j]) := hR.load (P := prog) Fc.ty80 hx
theorem rct_f0 (hR : Rows encC h pv P) (hi : i < P.length) : fieldAddrA prog 80 (elAdr pv encC.z i 0) 0 = some (elAdr pv encC.z i 0) := elAdr_field (P := prog) (i := i) (o := 0) (off := 0) (q := false) (n := 1) hR hi (by kernel_rfl) (by decide)
theorem rct_f1 (hR : Rows encC h pv P) (hi : i < P.length) : fieldAddrA prog 80 (elAdr pv encC.z i 0) 1 = some (elAdr pv encC.z i 1) := elAdr_field (P := prog) (i := i) (o := 0) (off := 1) (q := false) (n := 1) hR hi (by kernel_rfl) (by decide)
theorem rct_l0 (hR : Rows encC h pv P) (hx : P[i]? = some c) : loadP prog h 3 (elAdr pv encC.z i 0) = some (.int .i64 c.w) := hR.cell (P := prog) Fc.ty3 hx (o := 0) (a := .int .i64 c.w) rfl
theorem rct_l1 (hR : Rows encC h pv P) (hx : P[i]? = some c) : loadP prog h 3 (elAdr pv encC.z i 1) = some (.int .i64 c.f) := hR.cell (P := prog) Fc.ty3 hx (o := 1) (a := .int .i64 c.f) rfl
end
set_option maxRecDepth 100000 in
set_option maxHeartbeats 4000000 in
theorem run_rplan {base : Nat} {h : Heap} {v pv : AVal} {R : Rib} {p : List Ct} (hA : RibAt h v R) (hR : RibOk R) (hP : Rows encC h pv p) :
    callL prog raw base (.fn 33 [] []) [v, pv] h = some (.tuple [.int .i64 (plnL R p 0 0).1, .int .i64 (plnL R p 0 0).2], h) := by
  have hAe := fun H (e : Ext h H) => hA.ext e
  obtain ⟨fv, wv, rfl, hF, hW⟩ := hA
  have o1 := hF.one
  have o2 := hW.one
  have op := hP.one
  have hL := hR.L
  have hnW := hR.nW
  have hpl := hP.1
  obtain ⟨G0, eG0⟩ : ∃ G0, G0 = h ++ [rrbB R.L fv wv] := ⟨_, rfl⟩
  have x0 : Ext h G0 := by rw [eG0]; exact .app .refl
  have g0 : G0[h.length]? = some (rrbB R.L fv wv) := by rw [eG0]; exact get_eq rfl
  have l0 : G0.length = h.length + 1 := by rw [eG0]; simp
  have hn := rct_len (hP.ext x0)
  have hAG := hAe G0 x0
  have iP := hP.ext x0
  unfold rrbB at eG0 g0
  obtain ⟨Z, eZ⟩ : ∃ Z, Z = plnL R p 0 0 := ⟨_, rfl⟩
  rw [← eZ]
  refine callL_run func33 rfl rfl ?_
  have hsp := @Nat.succ_ne_zero; repeat' (first | simp (disch := first | exact dschN30 | fail) only [go_sem, ↓reduceIte, hsp, ← eG0] | refine WP_drw ?_ | refine cnd_intro (fun hsp => ?_) fun hsp => ?_)
  refine WP_count [(4, 56)] 0 p.length (Nat.zero_le _) (fun _ i fr H => fr 8 = .int .i64 (i : Int) ∧ H = G0 ∧ ∃ a s : Int, fr 6 = .int .i64 a ∧ fr 7 = .int .i64 s ∧ plnL R (p.drop i) a s = Z ∧ (0 ≤ a ∧ a ≤ R.L) ∧ (0 ≤ s ∧ s ≤ 100 * a)) ?_ ?_ ?_
  · exact ⟨by (simp (disch := first | exact dschN30 | fail) only [go_sem, ↓reduceIte, Int.natCast_zero]; first | done | rfl), rfl, 0, 0, by simp (disch := first | exact dschN30 | fail) only [go_sem, ↓reduceIte], by simp (disch := first | exact dschN30 | fail) only [go_sem, ↓reduceIte], by rw [List.drop_zero, eZ], by omega, by omega⟩
  · rintro i fr H hi0 hi hAg ⟨r8, rfl, a, s, r6, r7, hpn, ha, hs⟩
    have q1 := hAg 1 rfl
    have q2 := hAg 2 rfl
    try simp (disch := first | exact dschN30 | fail) only [go_sem, ↓reduceIte] at q1 q2
    have hlt : ((i : Int) < (p.length : Int)) = True := eq_true (by omega)
    obtain ⟨c, ec⟩ : ∃ c, c = p[i] := ⟨_, rfl⟩
    have hx : p[i]? = some c := by rw [ec]; exact List.getElem?_eq_getElem hi
    rw [List.drop_eq_getElem_cons hi, ← ec] at hpn
    have a1 := rct_ad iP hi
    have b1 := rct_ld iP hx
    have f0 := rct_f0 iP hi
    have f1 := rct_f1 iP hi
    have c0 := rct_l0 iP hx
    have c1' := rct_l1 iP hx
    have ht0 := fun base => run_there (base := base) (k := c.w) (u := c.f) hAG (by omega) (by omega)
    unfold plnL at hpn
    by_cases c1 : (0 ≤ c.w ∧ c.w ≤ (R.W.length : Int) - 1) ∧ (0 ≤ c.f ∧ c.f ≤ R.L - 1)
    · rw [if_pos c1] at ht0
      rw [if_neg (fun z => z c1)] at hpn
      obtain ⟨k, ek⟩ := Int.eq_ofNat_of_zero_le c1.1.1
      obtain ⟨x, ex⟩ := Int.eq_ofNat_of_zero_le c1.2.1
      have hwk : R.W[k]? = some (R.W[k]'(by omega)) := List.getElem?_eq_getElem (by omega)
      generalize R.W[k]'(by omega) = w at hwk
      have ht := fun base => run_allowed (base := base) (j := c.j) hAG hR hwk (show x < R.L.toNat by omega)
      have etc : takC R c = takL R w x c.j := by unfold takC; rw [ek, Int.toNat_natCast, hwk]; simp only; rw [ex, Int.toNat_natCast]
      rw [← ek, ← ex] at ht
      cases hto : takC R c with
      | none =>
        rw [hto] at hpn
        simp only at hpn
        rw [← etc, hto] at ht
        unfold allV at ht
        rw [← hpn]
        have hsp := @Nat.succ_ne_zero; repeat' (first | simp (disch := first | exact dschN30 | fail) only [go_sem, ↓reduceIte, hsp, r8, r6, r7, q1, q2, hn, hlt, g0, a1, b1, f0, f1, c0, c1', ht0, ht] | refine WP_drw ?_ | refine cnd_intro (fun hsp => ?_) fun hsp => ?_)
        exact fin_pl rfl rfl x0
      | some e =>
        rw [hto] at hpn
        simp only at hpn
        rw [← etc, hto] at ht
        have htb := takL_b hR (hR.W w (List.mem_of_getElem? hwk)) (show x < R.L.toNat by omega) (etc.symm.trans hto)
        obtain ⟨e, pr⟩ := e
        simp only at hpn htb
        unfold allV at ht
        simp only at ht
        by_cases c3 : c.f < a
        · have t3 : (c.f < a) = True := eq_true c3
          rw [if_pos c3] at hpn
          rw [← hpn]
          have hsp := @Nat.succ_ne_zero; repeat' (first | simp (disch := first | exact dschN30 | fail) only [go_sem, ↓reduceIte, hsp, r8, r6, r7, q1, q2, hn, hlt, g0, a1, b1, f0, f1, c0, c1', ht0, ht, t3] | refine WP_drw ?_ | refine cnd_intro (fun hsp => ?_) fun hsp => ?_)
          exact fin_pl rfl rfl x0
        · have t3 : (c.f < a) = False := eq_false c3
          rw [if_neg c3] at hpn
          have hsp := @Nat.succ_ne_zero; repeat' (first | simp (disch := first | exact dschN30 | fail) only [go_sem, ↓reduceIte, hsp, r8, r6, r7, q1, q2, hn, hlt, g0, a1, b1, f0, f1, c0, c1', ht0, ht, t3] | refine WP_drw ?_ | refine cnd_intro (fun hsp => ?_) fun hsp => ?_)
          exact ⟨by (repeat first | exact Agree.refl | assumption | refine Agree.put rfl ?_ | refine Agree.put0 ?_ | refine Agree.sub rfl (by assumption) ?_), by omega, e, s + pr, rfl, rfl, hpn, by omega, by omega⟩
    · rw [if_neg c1] at ht0
      rw [if_pos c1] at hpn
      have t1 : ((1 : Int) = 0) = False := eq_false (by omega)
      rw [← hpn]
      have hsp := @Nat.succ_ne_zero; repeat' (first | simp (disch := first | exact dschN30 | fail) only [go_sem, ↓reduceIte, hsp, r8, r6, r7, q1, q2, hn, hlt, g0, a1, b1, f0, f1, c0, c1', ht0] | refine WP_drw ?_ | refine cnd_intro (fun hsp => ?_) fun hsp => ?_)
      exact fin_pl rfl rfl x0
  · rintro fr H hAg ⟨r8, rfl, a, s, r6, r7, hpn, ha, hs⟩
    have q1 := hAg 1 rfl
    have q2 := hAg 2 rfl
    try simp (disch := first | exact dschN30 | fail) only [go_sem, ↓reduceIte] at q1 q2
    have hlt : ((p.length : Int) < (p.length : Int)) = False := eq_false (by omega)
    rw [List.drop_length, plnL] at hpn
    rw [← hpn]
    have hsp := @Nat.succ_ne_zero; repeat' (first | simp (disch := first | exact dschN30 | fail) only [go_sem, ↓reduceIte, hsp, r8, r6, r7, q1, q2, hn, hlt] | refine WP_drw ?_ | refine cnd_intro (fun hsp => ?_) fun hsp => ?_)
    exact fin_pl rfl rfl x0
end Go.AM
/-
  Marks; the units that are left over, as the reference tells them: run by run.
-/
namespace Go.AM
open Go.Proofs.Try
attribute [-go_sem] put_ne put_same
attribute [local go_sem ↓] put_if
def encO : Enc Bool := ⟨1, fun b => [.bool b], fun _ => rfl, by decide⟩
theorem encO_sc : ∀ y, (encO.cells y).all AVal.scalar = true := fun _ => rfl
theorem flat_encO : ∀ (l : List Bool), flat encO l = l.map AVal.bool
  | [] => rfl
  | x :: l => by
    have := flat_encO l
    simp only [flat, List.flatMap_cons, List.map_cons] at this ⊢
    rw [this]; rfl
def mrk (n : Nat) (S : List Int) : List Bool := (List.range n).map fun k : Nat => decide ((k : Int) ∈ S)
theorem mrk_len {n : Nat} {S : List Int} : (mrk n S).length = n := by simp [mrk]
theorem mrk_at {n k : Nat} {S : List Int} (hk : k < n) : (mrk n S)[k]? = some (decide ((k : Int) ∈ S)) := by
  unfold mrk
  rw [List.getElem?_map, List.getElem?_range hk]; rfl
theorem mrk_set {n k : Nat} {S : List Int} : (mrk n S).set k true = mrk n (S ++ [(k : Int)]) := by
  refine List.ext_getElem? fun i => ?_
  by_cases hi : i < n
  · rw [mrk_at hi]
    by_cases e : k = i
    · subst e
      rw [List.getElem?_set_self (by rw [mrk_len]; exact hi)]
      simp
    · rw [List.getElem?_set_ne e, mrk_at hi]
      congr 1
      refine decide_eq_decide.2 ⟨fun q => by simp [q], fun q => ?_⟩
      rcases List.mem_append.1 q with q | q
      · exact q
      · simp at q; omega
  · rw [List.getElem?_eq_none (by rw [List.length_set, mrk_len]; omega), List.getElem?_eq_none (by rw [mrk_len]; omega)]
theorem mrk_nil {n : Nat} : mrk n [] = List.replicate n false := by
  refine List.ext_getElem? fun i => ?_
  by_cases hi : i < n
  · rw [mrk_at hi, List.getElem?_replicate, if_pos hi]; rfl
  · rw [List.getElem?_eq_none (by rw [mrk_len]; omega), List.getElem?_eq_none (by simp; omega)]
abbrev mkB (n : Nat) (S : List Int) : ABlk := rowE encO 4 (mrk n S) 0
theorem ld_mrk {K : Heap} {id n k : Nat} {S : List Int} (hg : K[id]? = some (mkB n S)) (hk : k < n) : loadP prog K 4 (.ptr (some ⟨id, 0, k⟩)) = some (.bool (decide ((k : Int) ∈ S))) := by
  rw [load_eq, Fc.ty4, hg, mkB, rowE, ldB_cell, flat_encO, List.getElem?_map, mrk_at hk]
  rfl
theorem st_mrk {base id n k : Nat} {S : List Int} {F : ABlk → Heap} (hk : k < n) (hb : base ≤ id) : stQ base id (some (mkB n S)) 0 k [.bool true] F = some (F (mkB n (S ++ [(k : Int)]))) := by
  have := stQ_rowE (E := encO) (e := 4) (l := mrk n S) (i := k) (base := base) (id := id) (ver := 0) (x := true) (K := F) (by rw [mrk_len]; exact hk) (encO_sc true) hb
  rw [mrk_set] at this
  have e1 : k * encO.z = k := Nat.mul_one k
  rw [e1] at this
  exact this
theorem fold_insK {l : List Int} {k : Int} : ∀ {ks : List Int}, k ∈ l.foldl insK ks ↔ k ∈ ks ∨ k ∈ l := by
  induction l with
  | nil => intro ks; simp
  | cons x l ih =>
    intro ks
    rw [List.foldl_cons, ih, insK_mem]
    simp [or_assoc]
theorem tknL_mem {R : Rib} {k : Int} : ∀ {p : List Ct} {ks : List Int}, k ∈ tknL R p ks ↔ k ∈ ks ∨ k ∈ p.flatMap (takU R)
  | [], ks => by simp [tknL]
  | c :: p, ks => by
    rw [tknL, tknL_mem, fold_insK]
    simp [or_assoc]
theorem spnN_congr {s t : List Int} : ∀ {n : Nat}, (∀ k : Nat, k < n → ((k : Int) ∈ s ↔ (k : Int) ∈ t)) → spnN s n = spnN t n
  | 0, _ => rfl
  | n + 1, h => by
    unfold spnN spnS
    rw [spnN_congr fun k hk => h k (by omega)]
    by_cases c : (n : Int) ∈ t
    · rw [if_pos c, if_pos ((h n (by omega)).2 c)]
    · rw [if_neg c, if_neg (fun q => c ((h n (by omega)).1 q))]
theorem spnN_nt {t : List Int} : ∀ {n : Nat}, ∀ y ∈ spnN t n, y.2 ∉ t
  | 0 => by intro y hy; cases hy
  | n + 1 => by
    intro y hy
    unfold spnN spnS at hy
    split at hy
    · exact spnN_nt y hy
    · rename_i c
      split at hy
      · rcases List.mem_or_eq_of_mem_set hy with q | q
        · exact spnN_nt y q
        · rw [q]; exact c
      · rcases List.mem_append.1 hy with q | q
        · exact spnN_nt y q
        · rw [List.mem_singleton.1 q]; exact c
theorem spn_skip {t : List Int} {n : Nat} (h : (n : Int) ∈ t) : spnN t (n + 1) = spnN t n := by
  rw [spnN, spnS, if_pos h]
theorem spn_new {t : List Int} {n : Nat} (h : (n : Int) ∉ t) (h0 : n = 0 ∨ (n : Int) - 1 ∈ t) : spnN t (n + 1) = spnN t n ++ [((n : Int), (n : Int))] := by
  rw [spnN, spnS, if_neg h, if_neg]
  rintro ⟨h1, h2⟩
  rcases h0 with rfl | h0
  · simp [spnN] at h1
  · have hm := spnN_nt (t := t) (n := n) _ (getD_mem' (l := spnN t n) (d := (0, 0)) (i := (spnN t n).length - 1) (by omega))
    rw [h2] at hm
    exact hm h0
theorem spn_more {t : List Int} {n : Nat} {o : List (Int × Int)} {a : Int} (h : ((n + 1 : Nat) : Int) ∉ t) (ho : spnN t (n + 1) = o ++ [(a, (n : Int))]) : spnN t (n + 1 + 1) = o ++ [(a, ((n + 1 : Nat) : Int))] := by
  rw [spnN, spnS, if_neg h, ho]
  have e1 : (o ++ [(a, (n : Int))]).length - 1 = o.length := by simp
  have e2 : (o ++ [(a, (n : Int))]).getD o.length (0, 0) = (a, (n : Int)) := by simp [List.getD_eq_getElem?_getD]
  rw [e1, e2, if_pos ⟨by simp, by simp only; omega⟩, List.set_append_right _ _ (Nat.le_refl _), Nat.sub_self]
  rfl
/-- A run of units that are left over. -/
theorem run_end {t : List Int} {n u : Nat} (hu : u < n) (h : (u : Int) ∉ t) (h0 : u = 0 ∨ (u : Int) - 1 ∈ t) :
    ∃ v, u ≤ v ∧ v < n ∧ (∀ y : Nat, u ≤ y → y ≤ v → (y : Int) ∉ t) ∧ (v + 1 < n → ((v + 1 : Nat) : Int) ∈ t) ∧ spnN t (v + 1) = spnN t u ++ [((u : Int), (v : Int))] := by
  have key : ∀ d v : Nat, n - v = d → u ≤ v → v < n → (∀ y : Nat, u ≤ y → y ≤ v → (y : Int) ∉ t) → spnN t (v + 1) = spnN t u ++ [((u : Int), (v : Int))] →
      ∃ v, u ≤ v ∧ v < n ∧ (∀ y : Nat, u ≤ y → y ≤ v → (y : Int) ∉ t) ∧ (v + 1 < n → ((v + 1 : Nat) : Int) ∈ t) ∧ spnN t (v + 1) = spnN t u ++ [((u : Int), (v : Int))] := by
    intro d
    induction d with
    | zero => intro v e _ h2; omega
    | succ d ih =>
      intro v e h1 h2 h3 h4
      by_cases c : v + 1 < n ∧ ((v + 1 : Nat) : Int) ∉ t
      · refine ih (v + 1) (by omega) (by omega) c.1 (fun y hy hv => ?_) (spn_more c.2 h4)
        by_cases e : y = v + 1
        · rw [e]; exact c.2
        · exact h3 y hy (by omega)
      · exact ⟨v, h1, h2, h3, fun q => Classical.byContradiction fun z => c ⟨q, z⟩, h4⟩
  refine key _ u rfl (Nat.le_refl _) hu (fun y h1 h2 => ?_) (spn_new h h0)
  rw [show y = u by omega]; exact h
/-- How far the reference's list reaches. -/
structure Rch (t : List Int) (n u m : Nat) : Prop where
  le : u ≤ m ∧ m ≤ n
  fr : ∀ y : Nat, u ≤ y → y < m → (y : Int) ∉ t
  pr : u < m → 0 < u ∧ (u : Int) - 1 ∉ t
  ed : m < n → (m : Int) ∈ t ∨ (m = u ∧ (u = 0 ∨ (u : Int) - 1 ∈ t))
theorem Rch.start {t : List Int} {n : Nat} : Rch t n 0 0 := ⟨by omega, fun y _ h => by omega, fun h => by omega, fun _ => .inr ⟨rfl, .inl rfl⟩⟩
theorem Rch.last {t : List Int} {n m : Nat} (h : Rch t n n m) : m = n := by have := h.le; omega
theorem Rch.mark {t : List Int} {n u m : Nat} (h : Rch t n u m) (hu : u < n) (hm : (u : Int) ∈ t) : m = u ∧ Rch t n (u + 1) (u + 1) := by
  have e : m = u := by
    have := h.le
    have : ¬ u < m := fun q => h.fr u (Nat.le_refl _) q hm
    omega
  refine ⟨e, by omega, fun y h1 h2 => by omega, fun q => by omega, fun _ => .inr ⟨rfl, .inr ?_⟩⟩
  rw [show ((u + 1 : Nat) : Int) - 1 = (u : Int) by omega]; exact hm
theorem Rch.go {t : List Int} {n u m : Nat} (h : Rch t n u m) (hu : u < n) (hm : (u : Int) ∉ t) (h0 : 0 < u) (hp : (u : Int) - 1 ∉ t) : Rch t n (u + 1) m := by
  have hl := h.le
  have hlt : u < m := by
    by_cases c : u < m
    · exact c
    · have e : m = u := by omega
      rcases h.ed (by omega) with q | ⟨_, q⟩
      · rw [e] at q; exact absurd q hm
      · rcases q with q | q
        · omega
        · exact absurd q hp
  refine ⟨by omega, fun y h1 h2 => h.fr y (by omega) h2, fun q => ⟨by omega, ?_⟩, fun q => ?_⟩
  · rw [show ((u + 1 : Nat) : Int) - 1 = (u : Int) by omega]; exact hm
  · rcases h.ed q with z | ⟨z, _⟩
    · exact .inl z
    · omega
theorem Rch.new {t : List Int} {n u m v : Nat} (h : Rch t n u m) (hu : u < n) (hs : u = 0 ∨ (u : Int) - 1 ∈ t) (hv : u ≤ v ∧ v < n) (hf : ∀ y : Nat, u ≤ y → y ≤ v → (y : Int) ∉ t) (he : v + 1 < n → ((v + 1 : Nat) : Int) ∈ t) : m = u ∧ Rch t n (u + 1) (v + 1) := by
  have hl := h.le
  have e : m = u := by
    by_cases c : u < m
    · have := h.pr c
      rcases hs with q | q
      · omega
      · exact absurd q this.2
    · omega
  refine ⟨e, by omega, fun y h1 h2 => hf y (by omega) (by omega), fun q => ⟨by omega, ?_⟩, fun q => .inl (he q)⟩
  rw [show ((u + 1 : Nat) : Int) - 1 = (u : Int) by omega]; exact hf u (Nat.le_refl _) hv.1
end Go.AM
/-
  The reference: the units that no cut takes (Rest).
-/
namespace Go.AM
open Go.Proofs.Try
theorem dschN32 {p : Prop} (h : p := by first | exact Nat.ne_of_beq_eq_false rfl | assumption | (apply asOne; (first | exact One.int | exact One.bool | assumption | exact Ints.one (by assumption) | exact Rows.one (by assumption) | exact Own.one (by assumption) | exact One.lit ⟨rfl, rfl, rfl⟩)) | (apply asInts; (repeat first | assumption | exact ints_nil | apply Ints.app); done) | (apply asRows; (repeat first | assumption | exact Rows.nil | apply Rows.app); done) | (apply asScal; (first | apply allS1 | apply allS2 | apply allS3 | apply allS4) <;> (first | exact One.int | exact One.bool | assumption | exact Ints.one (by assumption) | exact Rows.one (by assumption) | exact Own.one (by assumption) | exact One.lit ⟨rfl, rfl, rfl⟩)) | exact litT rfl | exact litF rfl | omega | (simp only [List.length_append, List.length_cons, List.length_nil, List.length_set, List.length_reverse]; first | done | omega) | fail) : p := h
attribute [-go_sem] put_ne put_same
attribute [local go_sem ↓] put_if
theorem snocS {b base : Nat} {A : Heap} {w : AVal} {l : List (Int × Int)} {r : Int × Int} (hO : Own encS 69 b A w l) (hb : base ≤ b) (hbh : b ≤ A.length) (hl : l.length ≤ 1000000) :
    ∃ w' H, appendA prog base (A ++ [rowE encS 69 [r] 0]) 59 w (.slice (some ⟨A.length, 0, 0⟩) 1 1) = some (w', H) ∧ Own encS 69 b H w' (l ++ [r]) ∧ A.length ≤ H.length ∧ (∀ G, G.length ≤ b → Ext G A → Ext G H) ∧ One w' ∧ KeepO encS 69 A H := by
  obtain ⟨B, eB⟩ : ∃ B, B = A ++ [rowE encS 69 [r] 0] := ⟨_, rfl⟩
  have xB : Ext A B := by rw [eB]; exact .app .refl
  have lB' : B.length = A.length + 1 := by rw [eB]; simp
  have hx : Rows encS B (.slice (some ⟨A.length, 0, 0⟩) 1 1) [r] := Rows.own (by rw [eB]; exact get_eq rfl) rfl (by simp)
  rw [← eB]
  obtain ⟨w', H, a1, a2, a3, a4, a5, a6⟩ := (hO.ext xB).appendRX (P := prog) (base := base) (t := 59) hx Fc.el59 encS_sc hb (by omega) (by simp) (by simp; omega)
  have a6 : KeepO encS 69 B H := a6
  exact ⟨w', H, a1, a2, by omega, fun G h1 h2 => a4 G h1 (h2.trans xB), a5, fun i y hi hy => a6 i y (xB.get hi) hy⟩
set_option maxRecDepth 100000 in
set_option maxHeartbeats 4000000 in
theorem run_rrest {base : Nat} {h : Heap} {v pv : AVal} {R : Rib} {p : List Ct} (hb : base ≤ h.length) (hA : RibAt h v R) (hR : RibOk R) (hP : Rows encC h pv p) (hp0 : (plnL R p 0 0).2 = 0) :
    Ret prog raw base (.fn 35 [] []) [v, pv] h (fun w H => Ext h H ∧ Own encS 69 h.length H w (spnN (tknL R p []) R.L.toNat)) := by
  have hAe := fun H (e : Ext h H) => hA.ext e
  obtain ⟨fv, wv, rfl, hF, hW⟩ := hA
  have o1 := hF.one
  have o2 := hW.one
  have op := hP.one
  have hL := hR.L
  have hnW := hR.nW
  have hpl := hP.1
  have hrg := plnL_rng hp0
  obtain ⟨n, en⟩ := Int.eq_ofNat_of_zero_le (show 0 ≤ R.L by omega)
  have en' : R.L.toNat = n := by omega
  obtain ⟨G0, eG0⟩ : ∃ G0, G0 = h ++ [rrbB R.L fv wv] := ⟨_, rfl⟩
  have x0 : Ext h G0 := by rw [eG0]; exact .app .refl
  have g0 : G0[h.length]? = some (rrbB R.L fv wv) := by rw [eG0]; exact get_eq rfl
  have l0 : G0.length = h.length + 1 := by rw [eG0]; simp
  obtain ⟨G, eG⟩ : ∃ G, G = G0 ++ [mkB n []] := ⟨_, rfl⟩
  have xG : Ext G0 G := by rw [eG]; exact .app .refl
  have gm : G[G0.length]? = some (mkB n []) := by rw [eG]; exact get_eq rfl
  have lG : G.length = G0.length + 1 := by rw [eG]; simp
  have mk : makeSliceA prog G0 138 (.int .i64 R.L) (.int .i64 R.L) = some (.slice (some ⟨G0.length, 0, 0⟩) n n, G) := by
    rw [en, make_full Fc.el138 (by omega) (by omega), eG, mkB, rowE, mrk_nil, ← rep_flat]
    rfl
  have g1 := xG.get g0
  have hn := fun {K} (e : Ext h K) => rct_len (hP.ext e)
  have ak : ∀ k : Nat, k < n → indexAddrA prog 138 (.slice (some ⟨G0.length, 0, 0⟩) n n) (.int .i64 (k : Int)) = some (.ptr (some ⟨G0.length, 0, k⟩)) := fun k hk => by
    rw [adr_sl Fc.el138 Fc.ar138 (by omega) (by omega), Int.toNat_natCast, Nat.mul_one, Nat.zero_add]
  unfold rrbB at eG0 g0 g1
  refine ret_raw func35 rfl (by kernel_rfl) ?_
  have hsp := @Nat.succ_ne_zero; repeat' (first | simp (disch := first | exact dschN32 | fail) only [go_sem, ↓reduceIte, hsp, ← eG0, g0, mk] | refine WP_drw ?_ | refine cnd_intro (fun hsp => ?_) fun hsp => ?_)
  refine WP_count [(6, 38)] 0 p.length (Nat.zero_le _) (fun _ i fr K => fr 6 = .int .i64 (i : Int) ∧ Ext G0 K ∧ G0.length < K.length ∧ K[G0.length]? = some (mkB n ((p.take i).flatMap (takU R)))) ?_ ?_ ?_
  · exact ⟨by (simp (disch := first | exact dschN32 | fail) only [go_sem, ↓reduceIte, Int.natCast_zero]; first | done | rfl), xG, by omega, gm⟩
  · rintro i fr K hi0 hi hAg ⟨r6, xK, lK, gK⟩
    have q1 := hAg 1 rfl
    have q2 := hAg 2 rfl
    have q4 := hAg 4 rfl
    have q5 := hAg 5 rfl
    try simp (disch := first | exact dschN32 | fail) only [go_sem, ↓reduceIte] at q1 q2 q4 q5
    have hlt : ((i : Int) < (p.length : Int)) = True := eq_true (by omega)
    obtain ⟨c, ec⟩ : ∃ c, c = p[i] := ⟨_, rfl⟩
    have hx : p[i]? = some c := by rw [ec]; exact List.getElem?_eq_getElem hi
    have xh := x0.trans xK
    have iP := hP.ext xh
    have hnK := hn xh
    have a1 := rct_ad iP hi
    have b1 := rct_ld iP hx
    have g0K := xK.get g0
    obtain ⟨⟨c1, c2⟩, e, hto⟩ := hrg c (List.mem_of_getElem? hx)
    obtain ⟨k, ek⟩ := Int.eq_ofNat_of_zero_le c1.1
    obtain ⟨x, ex⟩ := Int.eq_ofNat_of_zero_le c2.1
    have hwk : R.W[k]? = some (R.W[k]'(by omega)) := List.getElem?_eq_getElem (by omega)
    generalize R.W[k]'(by omega) = w at hwk
    have hxl : x < R.L.toNat := by omega
    obtain ⟨lv, K2, e2, x2, oV⟩ := run_takes (base := base) (k := k) (x := x) (j := c.j) (by omega) (hAe K xh) hR hwk hxl
    have etc : takC R c = takL R w x c.j := by unfold takC; rw [ek, Int.toNat_natCast, hwk]; simp only; rw [ex, Int.toNat_natCast]
    have hok : okT R w x c.j = true := by
      rw [etc] at hto
      unfold takL at hto
      split at hto
      · rename_i z; exact z.1
      · simp at hto
    have etu : takU R c = (uniP R w x c.j).1 := by
      unfold takU; rw [ek, Int.toNat_natCast, hwk]; simp only
      rw [ex, Int.toNat_natCast]; unfold uniO
      rw [if_neg]
      intro q
      unfold okT at hok; rw [q] at hok; simp at hok
    obtain ⟨u0, hu1, hu2, hUK, -⟩ := uniP_k (w := w) (j := c.j) hR hxl
    rw [← etu] at oV hUK
    rw [← ek, ← ex] at e2
    obtain ⟨l, el⟩ : ∃ l, l = takU R c := ⟨_, rfl⟩
    rw [← el] at oV hUK
    have hlsm := unK_small hUK (by omega)
    have olv := oV.one
    have l2 := x2.len
    have hln := hUK.n
    obtain ⟨S, eS⟩ : ∃ S, S = (p.take i).flatMap (takU R) := ⟨_, rfl⟩
    rw [← eS] at gK
    have hS2 : (p.take (i + 1)).flatMap (takU R) = S ++ l := by rw [List.take_add_one, hx, List.flatMap_append, ← eS, el]; simp
    have gK2 := x2.get gK
    have hsp := @Nat.succ_ne_zero; repeat' (first | simp (disch := first | exact dschN32 | fail) only [go_sem, ↓reduceIte, hsp, r6, q1, q2, q4, q5, hnK, hlt, g0K, a1, b1, e2] | refine WP_drw ?_ | refine cnd_intro (fun hsp => ?_) fun hsp => ?_)
    refine WP_count [(8, 38)] 0 l.length (Nat.zero_le _) (fun _ j fr X => fr 8 = .int .i64 (j : Int) ∧ X = K2.set G0.length (mkB n (S ++ l.take j))) ?_ ?_ ?_
    · exact ⟨by (simp (disch := first | exact dschN32 | fail) only [go_sem, ↓reduceIte, Int.natCast_zero]; first | done | rfl), by rw [List.take_zero, List.append_nil, set_id gK2]⟩
    · rintro j fr2 X hj0 hj hA2 ⟨r8, eX⟩
      have d1 := hA2 1 rfl
      have d2 := hA2 2 rfl
      have d4 := hA2 4 rfl
      have d5 := hA2 5 rfl
      have d6 := hA2 6 rfl
      have d7 := hA2 7 rfl
      try simp (disch := first | exact dschN32 | fail) only [go_sem, ↓reduceIte, q1, q2, q4, q5] at d1 d2 d4 d5 d6 d7
      have hlt2 : ((j : Int) < (l.length : Int)) = True := eq_true (by omega)
      have oX : Own encI 3 K.length X lv l := by rw [eX]; exact oV.set (by omega)
      have iX := own_ints oX hlsm
      have hlX := lenI iX
      have aj := adrI (i := (j : Int)) (by omega) iX (by omega)
      rw [Int.toNat_natCast] at aj
      have lj := loadI iX hj
      have hyb := hUK.b _ (getD_mem' (l := l) (d := 0) hj)
      obtain ⟨y, ey⟩ := Int.eq_ofNat_of_zero_le (show 0 ≤ l.getD j 0 by omega)
      rw [ey] at lj
      have aky := ak y (by omega)
      have gX : X[G0.length]? = some (mkB n (S ++ l.take j)) := by rw [eX]; exact get_set_same (by omega)
      have hst := fun {F : ABlk → Heap} => st_mrk (base := base) (id := G0.length) (n := n) (k := y) (S := S ++ l.take j) (F := F) (by omega) (by omega)
      have etk : S ++ l.take (j + 1) = S ++ l.take j ++ [(y : Int)] := by rw [take_succD hj, ey, List.append_assoc]
      have hsp := @Nat.succ_ne_zero; repeat' (first | simp (disch := first | exact dschN32 | fail) only [go_sem, ↓reduceIte, hsp, r8, d1, d2, d4, d5, d6, d7, q1, q2, q4, q5, hlX, hlt2, aj, lj, aky, gX, hst] | refine WP_drw ?_ | refine cnd_intro (fun hsp => ?_) fun hsp => ?_)
      exact ⟨by (repeat first | exact Agree.refl | assumption | refine Agree.put rfl ?_ | refine Agree.put0 ?_ | refine Agree.sub rfl (by assumption) ?_), by omega, by rw [eX, List.set_set, etk]⟩
    · rintro fr2 X hA2 ⟨r8, eX⟩
      have d1 := hA2 1 rfl
      have d2 := hA2 2 rfl
      have d4 := hA2 4 rfl
      have d5 := hA2 5 rfl
      have d6 := hA2 6 rfl
      have d7 := hA2 7 rfl
      try simp (disch := first | exact dschN32 | fail) only [go_sem, ↓reduceIte, q1, q2, q4, q5] at d1 d2 d4 d5 d6 d7
      have hlt2 : ((l.length : Int) < (l.length : Int)) = False := eq_false (by omega)
      have d6 := hA2 6 rfl
      simp (disch := first | exact dschN32 | fail) only [go_sem, ↓reduceIte, r6] at d6
      have oX : Own encI 3 K.length X lv l := by rw [eX]; exact oV.set (by omega)
      have hlX := lenI (own_ints oX hlsm)
      rw [List.take_length] at eX
      have gX : X[G0.length]? = some (mkB n (S ++ l)) := by rw [eX]; exact get_set_same (by omega)
      have xX : Ext G0 X := by rw [eX]; exact (xK.trans x2).set (Nat.le_refl _)
      have lX : G0.length < X.length := by rw [eX, List.length_set]; omega
      have hsp := @Nat.succ_ne_zero; repeat' (first | simp (disch := first | exact dschN32 | fail) only [go_sem, ↓reduceIte, hsp, r8, d6, d1, d2, d4, d5, d6, d7, q1, q2, q4, q5, hlX, hlt2] | refine WP_drw ?_ | refine cnd_intro (fun hsp => ?_) fun hsp => ?_)
      exact ⟨by (repeat first | exact Agree.refl | assumption | refine Agree.put rfl ?_ | refine Agree.put0 ?_ | refine Agree.sub rfl (by assumption) ?_), by omega, xX, lX, by rw [hS2]; exact gX⟩
  · rintro fr K hAg ⟨r6, xK, lK, gK⟩
    have q1 := hAg 1 rfl
    have q2 := hAg 2 rfl
    have q4 := hAg 4 rfl
    have q5 := hAg 5 rfl
    try simp (disch := first | exact dschN32 | fail) only [go_sem, ↓reduceIte] at q1 q2 q4 q5
    have hlt : ((p.length : Int) < (p.length : Int)) = False := eq_false (by omega)
    have hnK := hn (x0.trans xK)
    rw [List.take_length] at gK
    obtain ⟨S, eS⟩ : ∃ S, S = p.flatMap (takU R) := ⟨_, rfl⟩
    rw [← eS] at gK
    have hres : spnN S n = spnN (tknL R p []) R.L.toNat := by
      rw [en']
      exact spnN_congr fun k _ => by rw [tknL_mem, eS]; simp
    rw [← hres]
    have hsp := @Nat.succ_ne_zero; repeat' (first | simp (disch := first | exact dschN32 | fail) only [go_sem, ↓reduceIte, hsp, r6, q1, q2, q4, q5, hnK, hlt] | refine WP_drw ?_ | refine cnd_intro (fun hsp => ?_) fun hsp => ?_)
    refine WP_count [(9, 82)] 0 n (Nat.zero_le _) (fun _ u fr X => fr 10 = .int .i64 (u : Int) ∧ Ext K X ∧ ∃ m w, fr 9 = w ∧ Own encS 69 K.length X w (spnN S m) ∧ Rch S n u m) ?_ ?_ ?_
    · exact ⟨by (simp (disch := first | exact dschN32 | fail) only [go_sem, ↓reduceIte, Int.natCast_zero]; first | done | rfl), .refl, 0, .slice none 0 0, by (simp (disch := first | exact dschN32 | fail) only [go_sem, ↓reduceIte, Int.natCast_zero]; first | done | rfl), Own.nil, Rch.start⟩
    · rintro u fr2 X hu0 hu hA2 ⟨r10, xX, m, w, r9, oW, hr⟩
      have d2 := hA2 2 rfl
      have d4 := hA2 4 rfl
      have d5 := hA2 5 rfl
      try simp (disch := first | exact dschN32 | fail) only [go_sem, ↓reduceIte, q2, q4, q5] at d2 d4 d5
      have hltu : ((u : Int) < R.L) = True := eq_true (by omega)
      have ow := oW.one
      have g0X := xX.get (xK.get g0)
      have gX := xX.get gK
      have au := ak u hu
      have lu := ld_mrk gX hu
      have lX := xX.len
      by_cases c1 : (u : Int) ∈ S
      · obtain ⟨rfl, hr'⟩ := hr.mark hu c1
        rw [decide_eq_true c1] at lu
        have hsp := @Nat.succ_ne_zero; repeat' (first | simp (disch := first | exact dschN32 | fail) only [go_sem, ↓reduceIte, hsp, r10, r9, d2, d4, d5, q1, q2, q4, q5, g0X, hltu, au, lu] | refine WP_drw ?_ | refine cnd_intro (fun hsp => ?_) fun hsp => ?_)
        exact ⟨by (repeat first | exact Agree.refl | assumption | refine Agree.put rfl ?_ | refine Agree.put0 ?_ | refine Agree.sub rfl (by assumption) ?_), by omega, xX, m + 1, w, rfl, by rw [spn_skip c1]; exact oW, hr'⟩
      · rw [decide_eq_false c1] at lu
        by_cases c2 : 0 < u
        · have t2 : ((u : Int) > 0) = True := eq_true (by omega)
          have ap : indexAddrA prog 138 (.slice (some ⟨G0.length, 0, 0⟩) n n) (.int .i64 ((u : Int) - 1)) = some (.ptr (some ⟨G0.length, 0, u - 1⟩)) := by
            have := ak (u - 1) (by omega)
            rwa [show ((u - 1 : Nat) : Int) = (u : Int) - 1 by omega] at this
          have lp := ld_mrk gX (k := u - 1) (by omega)
          rw [show ((u - 1 : Nat) : Int) = (u : Int) - 1 by omega] at lp
          by_cases c3 : (u : Int) - 1 ∈ S
          · rw [decide_eq_true c3] at lp
            have hs : u = 0 ∨ (u : Int) - 1 ∈ S := .inr c3
            obtain ⟨v, hv1, hv2, hvf, hve, hspn⟩ := run_end hu c1 hs
            obtain ⟨rfl, hr'⟩ := hr.new hu hs ⟨hv1, hv2⟩ hvf hve
            have hsp := @Nat.succ_ne_zero; repeat' (first | simp (disch := first | exact dschN32 | fail) only [go_sem, ↓reduceIte, hsp, r10, r9, d2, d4, d5, q1, q2, q4, q5, g0X, hltu, au, lu, t2, ap, lp] | refine WP_drw ?_ | refine cnd_intro (fun hsp => ?_) fun hsp => ?_)
            refine WP_count [(11, 76)] m v hv1 (fun _ i fr Y => fr 11 = .int .i64 (i : Int) ∧ Y = X) ?_ ?_ ?_
            · exact ⟨by (simp (disch := first | exact dschN32 | fail) only [go_sem, ↓reduceIte, Int.natCast_zero]; first | done | rfl), rfl⟩
            · rintro i fr3 Y hi0 hi hA3 ⟨r11, rfl⟩
              have z2 := hA3 2 rfl
              have z4 := hA3 4 rfl
              have z5 := hA3 5 rfl
              have z9 := hA3 9 rfl
              have z10 := hA3 10 rfl
              try simp (disch := first | exact dschN32 | fail) only [go_sem, ↓reduceIte, d2, d4, d5] at z2 z4 z5 z9 z10
              have t3 : ((i : Int) + 1 < R.L) = True := eq_true (by omega)
              have ai : indexAddrA prog 138 (.slice (some ⟨G0.length, 0, 0⟩) n n) (.int .i64 ((i : Int) + 1)) = some (.ptr (some ⟨G0.length, 0, i + 1⟩)) := by
                have := ak (i + 1) (by omega)
                rwa [show ((i + 1 : Nat) : Int) = (i : Int) + 1 by omega] at this
              have li := ld_mrk gX (k := i + 1) (by omega)
              rw [decide_eq_false (hvf (i + 1) (by omega) (by omega))] at li
              have hsp := @Nat.succ_ne_zero; repeat' (first | simp (disch := first | exact dschN32 | fail) only [go_sem, ↓reduceIte, hsp, r11, z2, z4, z5, z9, z10, d2, d4, d5, q1, q2, q4, q5, g0X, t3, ai, li] | refine WP_drw ?_ | refine cnd_intro (fun hsp => ?_) fun hsp => ?_)
              exact ⟨by (repeat first | exact Agree.refl | assumption | refine Agree.put rfl ?_ | refine Agree.put0 ?_ | refine Agree.sub rfl (by assumption) ?_), by omega⟩
            · rintro fr3 Y hA3 ⟨r11, rfl⟩
              have z2 := hA3 2 rfl
              have z4 := hA3 4 rfl
              have z5 := hA3 5 rfl
              have z9 := hA3 9 rfl
              have z10 := hA3 10 rfl
              try simp (disch := first | exact dschN32 | fail) only [go_sem, ↓reduceIte, d2, d4, d5] at z2 z4 z5 z9 z10
              have d10 := hA3 10 rfl
              have d9 := hA3 9 rfl
              simp (disch := first | exact dschN32 | fail) only [go_sem, ↓reduceIte, r10] at d10
              simp (disch := first | exact dschN32 | fail) only [go_sem, ↓reduceIte, r9] at d9
              obtain ⟨w', K2, ea, oW', lW, eW, oneW, kW⟩ := snocS (base := base) (r := ((m : Int), (v : Int))) oW (by omega) (by omega) (by have := spnN_len (t := S) (n := m); omega)
              rw [← hspn] at oW'
              by_cases c5 : v + 1 < n
              · have t3 : ((v : Int) + 1 < R.L) = True := eq_true (by omega)
                have ai : indexAddrA prog 138 (.slice (some ⟨G0.length, 0, 0⟩) n n) (.int .i64 ((v : Int) + 1)) = some (.ptr (some ⟨G0.length, 0, v + 1⟩)) := by
                  have := ak (v + 1) (by omega)
                  rwa [show ((v + 1 : Nat) : Int) = (v : Int) + 1 by omega] at this
                have li := ld_mrk gX (k := v + 1) (by omega)
                rw [decide_eq_true (hve c5)] at li
                have hsp := @Nat.succ_ne_zero; repeat' (first | simp (disch := first | exact dschN32 | fail) only [go_sem, ↓reduceIte, hsp, r11, d10, d9, z2, z4, z5, z9, z10, d2, d4, d5, q1, q2, q4, q5, g0X, t3, ai, li, bsS1, ea] | refine WP_drw ?_ | refine cnd_intro (fun hsp => ?_) fun hsp => ?_)
                exact ⟨by (repeat first | exact Agree.refl | assumption | refine Agree.put rfl ?_ | refine Agree.put0 ?_ | refine Agree.sub rfl (by assumption) ?_), by omega, eW K (Nat.le_refl _) xX, v + 1, w', rfl, oW', hr'⟩
              · have t3 : ((v : Int) + 1 < R.L) = False := eq_false (by omega)
                have hsp := @Nat.succ_ne_zero; repeat' (first | simp (disch := first | exact dschN32 | fail) only [go_sem, ↓reduceIte, hsp, r11, d10, d9, z2, z4, z5, z9, z10, d2, d4, d5, q1, q2, q4, q5, g0X, t3, bsS1, ea] | refine WP_drw ?_ | refine cnd_intro (fun hsp => ?_) fun hsp => ?_)
                exact ⟨by (repeat first | exact Agree.refl | assumption | refine Agree.put rfl ?_ | refine Agree.put0 ?_ | refine Agree.sub rfl (by assumption) ?_), by omega, eW K (Nat.le_refl _) xX, v + 1, w', rfl, oW', hr'⟩
          · rw [decide_eq_false c3] at lp
            have hsp := @Nat.succ_ne_zero; repeat' (first | simp (disch := first | exact dschN32 | fail) only [go_sem, ↓reduceIte, hsp, r10, r9, d2, d4, d5, q1, q2, q4, q5, g0X, hltu, au, lu, t2, ap, lp] | refine WP_drw ?_ | refine cnd_intro (fun hsp => ?_) fun hsp => ?_)
            exact ⟨by (repeat first | exact Agree.refl | assumption | refine Agree.put rfl ?_ | refine Agree.put0 ?_ | refine Agree.sub rfl (by assumption) ?_), by omega, xX, m, w, rfl, oW, hr.go hu c1 c2 c3⟩
        · have t2 : ((u : Int) > 0) = False := eq_false (by omega)
          have ap : True := trivial
          have lp : True := trivial
          have hs : u = 0 ∨ (u : Int) - 1 ∈ S := .inl (by omega)
          obtain ⟨v, hv1, hv2, hvf, hve, hspn⟩ := run_end hu c1 hs
          obtain ⟨rfl, hr'⟩ := hr.new hu hs ⟨hv1, hv2⟩ hvf hve
          have hsp := @Nat.succ_ne_zero; repeat' (first | simp (disch := first | exact dschN32 | fail) only [go_sem, ↓reduceIte, hsp, r10, r9, d2, d4, d5, q1, q2, q4, q5, g0X, hltu, au, lu, t2, ap, lp] | refine WP_drw ?_ | refine cnd_intro (fun hsp => ?_) fun hsp => ?_)
          refine WP_count [(11, 76)] m v hv1 (fun _ i fr Y => fr 11 = .int .i64 (i : Int) ∧ Y = X) ?_ ?_ ?_
          · exact ⟨by (simp (disch := first | exact dschN32 | fail) only [go_sem, ↓reduceIte, Int.natCast_zero]; first | done | rfl), rfl⟩
          · rintro i fr3 Y hi0 hi hA3 ⟨r11, rfl⟩
            have z2 := hA3 2 rfl
            have z4 := hA3 4 rfl
            have z5 := hA3 5 rfl
            have z9 := hA3 9 rfl
            have z10 := hA3 10 rfl
            try simp (disch := first | exact dschN32 | fail) only [go_sem, ↓reduceIte, d2, d4, d5] at z2 z4 z5 z9 z10
            have t3 : ((i : Int) + 1 < R.L) = True := eq_true (by omega)
            have ai : indexAddrA prog 138 (.slice (some ⟨G0.length, 0, 0⟩) n n) (.int .i64 ((i : Int) + 1)) = some (.ptr (some ⟨G0.length, 0, i + 1⟩)) := by
              have := ak (i + 1) (by omega)
              rwa [show ((i + 1 : Nat) : Int) = (i : Int) + 1 by omega] at this
            have li := ld_mrk gX (k := i + 1) (by omega)
            rw [decide_eq_false (hvf (i + 1) (by omega) (by omega))] at li
            have hsp := @Nat.succ_ne_zero; repeat' (first | simp (disch := first | exact dschN32 | fail) only [go_sem, ↓reduceIte, hsp, r11, z2, z4, z5, z9, z10, d2, d4, d5, q1, q2, q4, q5, g0X, t3, ai, li] | refine WP_drw ?_ | refine cnd_intro (fun hsp => ?_) fun hsp => ?_)
            exact ⟨by (repeat first | exact Agree.refl | assumption | refine Agree.put rfl ?_ | refine Agree.put0 ?_ | refine Agree.sub rfl (by assumption) ?_), by omega⟩
          · rintro fr3 Y hA3 ⟨r11, rfl⟩
            have z2 := hA3 2 rfl
            have z4 := hA3 4 rfl
            have z5 := hA3 5 rfl
            have z9 := hA3 9 rfl
            have z10 := hA3 10 rfl
            try simp (disch := first | exact dschN32 | fail) only [go_sem, ↓reduceIte, d2, d4, d5] at z2 z4 z5 z9 z10
            have d10 := hA3 10 rfl
            have d9 := hA3 9 rfl
            simp (disch := first | exact dschN32 | fail) only [go_sem, ↓reduceIte, r10] at d10
            simp (disch := first | exact dschN32 | fail) only [go_sem, ↓reduceIte, r9] at d9
            obtain ⟨w', K2, ea, oW', lW, eW, oneW, kW⟩ := snocS (base := base) (r := ((m : Int), (v : Int))) oW (by omega) (by omega) (by have := spnN_len (t := S) (n := m); omega)
            rw [← hspn] at oW'
            by_cases c5 : v + 1 < n
            · have t3 : ((v : Int) + 1 < R.L) = True := eq_true (by omega)
              have ai : indexAddrA prog 138 (.slice (some ⟨G0.length, 0, 0⟩) n n) (.int .i64 ((v : Int) + 1)) = some (.ptr (some ⟨G0.length, 0, v + 1⟩)) := by
                have := ak (v + 1) (by omega)
                rwa [show ((v + 1 : Nat) : Int) = (v : Int) + 1 by omega] at this
              have li := ld_mrk gX (k := v + 1) (by omega)
              rw [decide_eq_true (hve c5)] at li
              have hsp := @Nat.succ_ne_zero; repeat' (first | simp (disch := first | exact dschN32 | fail) only [go_sem, ↓reduceIte, hsp, r11, d10, d9, z2, z4, z5, z9, z10, d2, d4, d5, q1, q2, q4, q5, g0X, t3, ai, li, bsS1, ea] | refine WP_drw ?_ | refine cnd_intro (fun hsp => ?_) fun hsp => ?_)
              exact ⟨by (repeat first | exact Agree.refl | assumption | refine Agree.put rfl ?_ | refine Agree.put0 ?_ | refine Agree.sub rfl (by assumption) ?_), by omega, eW K (Nat.le_refl _) xX, v + 1, w', rfl, oW', hr'⟩
            · have t3 : ((v : Int) + 1 < R.L) = False := eq_false (by omega)
              have hsp := @Nat.succ_ne_zero; repeat' (first | simp (disch := first | exact dschN32 | fail) only [go_sem, ↓reduceIte, hsp, r11, d10, d9, z2, z4, z5, z9, z10, d2, d4, d5, q1, q2, q4, q5, g0X, t3, bsS1, ea] | refine WP_drw ?_ | refine cnd_intro (fun hsp => ?_) fun hsp => ?_)
              exact ⟨by (repeat first | exact Agree.refl | assumption | refine Agree.put rfl ?_ | refine Agree.put0 ?_ | refine Agree.sub rfl (by assumption) ?_), by omega, eW K (Nat.le_refl _) xX, v + 1, w', rfl, oW', hr'⟩
    · rintro fr2 X hA2 ⟨r10, xX, m, w, r9, oW, hr⟩
      have d2 := hA2 2 rfl
      have d4 := hA2 4 rfl
      have d5 := hA2 5 rfl
      try simp (disch := first | exact dschN32 | fail) only [go_sem, ↓reduceIte, q2, q4, q5] at d2 d4 d5
      have hltu : ((n : Int) < R.L) = False := eq_false (by omega)
      have ow := oW.one
      have g0X := xX.get (xK.get g0)
      have hsp := @Nat.succ_ne_zero; repeat' (first | simp (disch := first | exact dschN32 | fail) only [go_sem, ↓reduceIte, hsp, r10, r9, d2, d4, d5, q1, q2, q4, q5, g0X, hltu] | refine WP_drw ?_ | refine cnd_intro (fun hsp => ?_) fun hsp => ?_)
      rw [hr.last] at oW
      exact ⟨(x0.trans xK).trans xX, oW.low (by omega)⟩
end Go.AM
/-
  CutPlans, walked.
-/
namespace Go.AM
open Go.Proofs.Try
theorem dschN33 {p : Prop} (h : p := by first | exact Nat.ne_of_beq_eq_false rfl | assumption | (apply asOne; (first | exact One.int | exact One.bool | assumption | exact Ints.one (by assumption) | exact Rows.one (by assumption) | exact Own.one (by assumption) | exact One.lit ⟨rfl, rfl, rfl⟩)) | (apply asInts; (repeat first | assumption | exact ints_nil | apply Ints.app); done) | (apply asRows; (repeat first | assumption | exact Rows.nil | apply Rows.app); done) | (apply asScal; (first | apply allS1 | apply allS2 | apply allS3 | apply allS4) <;> (first | exact One.int | exact One.bool | assumption | exact Ints.one (by assumption) | exact Rows.one (by assumption) | exact Own.one (by assumption) | exact One.lit ⟨rfl, rfl, rfl⟩)) | exact litT rfl | exact litF rfl | omega | (simp only [List.length_append, List.length_cons, List.length_nil, List.length_set, List.length_reverse]; first | done | omega) | fail) : p := h
attribute [-go_sem] put_ne put_same
attribute [local go_sem ↓] put_if
set_option maxRecDepth 100000 in
set_option maxHeartbeats 8000000 in
theorem run_CutPlans {base : Nat} {h : Heap} {v0 v1 : AVal} (hA0 : RibN 1048576 h v0) (hP0 : CtsN 1048576 h v1) :
    callL prog raw base (.fn 5 [] []) [v0, v1] h = some (.bool true, h) := by
  obtain ⟨R, hA, -, -⟩ := hA0
  obtain ⟨p, hP, -⟩ := hP0
  have hAA := hA
  obtain ⟨fv, wv, rfl, hF, hW⟩ := hAA
  have o1 := hF.one
  have o2 := hW.one
  have o3 := hP.one
  obtain ⟨G0, eG0⟩ : ∃ G0, G0 = h ++ [ribB R.L fv wv] := ⟨_, rfl⟩
  have x0 : Ext h G0 := by rw [eG0]; exact .app .refl
  have g0 : G0[h.length]? = some (ribB R.L fv wv) := by rw [eG0]; exact get_eq rfl
  have lG0 : G0.length = h.length + 1 := by rw [eG0]; simp
  have hg := fun base => run_great (base := base) (hA.ext x0)
  have hlp := (hP.ext x0).len (P := prog) Fc.el43
  have haw := fun base => run_awake (base := base) (h := G0)
  unfold ribB at eG0
  have g0' := g0
  unfold ribB at g0'
  refine callL_run func5 rfl rfl ?_
  by_cases cg : 20 < R.F.length ∨ 12 < R.W.length
  · rw [decide_eq_true cg] at hg
    have hsp := @Nat.succ_ne_zero; repeat' (first | simp (disch := first | exact dschN33 | fail) only [go_sem, ↓reduceIte, hsp, ← eG0, g0', hg, haw] | refine WP_drw ?_ | refine cnd_intro (fun hsp => ?_) fun hsp => ?_)
    exact fB rfl x0
  · rw [decide_eq_false cg] at hg
    by_cases cl : 70 < p.length
    · have t1 : ((p.length : Int) > 70) = True := eq_true (by omega)
      have hsp := @Nat.succ_ne_zero; repeat' (first | simp (disch := first | exact dschN33 | fail) only [go_sem, ↓reduceIte, hsp, ← eG0, g0', hg, hlp, t1, haw] | refine WP_drw ?_ | refine cnd_intro (fun hsp => ?_) fun hsp => ?_)
      exact fB rfl x0
    · have t1 : ((p.length : Int) > 70) = False := eq_false (by omega)
      obtain ⟨_, G1, e1, x1, fw, ww, rfl, oF, oW⟩ := run_own (base := h.length) (h := G0) (by omega) (hA.ext x0) (by omega) (by omega)
      have l1 := x1.len
      obtain ⟨_, G2, e2, x2, aT, fw2, ww2, rfl, of2, ow2⟩ := run_theirs (base := h.length) (h := G1) (by omega) (hA.ext (x0.trans x1)) (by omega) (by omega)
      have l2 := x2.len
      obtain ⟨pw, G3, e3, x3, oP⟩ := run_dupC (base := h.length) (h := G2) (by omega) (hP.ext ((x0.trans x1).trans x2)) (by omega)
      have l3 := x3.len
      have ofw := oF.one
      have oww := oW.one
      have opw := oP.one
      obtain ⟨G4, eG4⟩ : ∃ G4, G4 = G3 ++ [ribB R.L fw ww] ++ [rrbB R.L fw2 ww2] := ⟨_, rfl⟩
      have x4 : Ext G3 G4 := by rw [eG4]; exact .app (.app .refl)
      have l4 : G4.length = G3.length + 2 := by rw [eG4]; simp
      have gO4 : G4[G3.length]? = some (ribB R.L fw ww) := by rw [eG4]; exact get_app (get_eq rfl)
      have gT4 : G4[G3.length + 1]? = some (rrbB R.L fw2 ww2) := by rw [eG4]; exact get_eq (by simp)
      have x14 := (x2.trans x3).trans x4
      have xh4 : Ext h G4 := (x0.trans x1).trans x14
      have aO4 : RibAt G4 (.agg [.int .i64 R.L, fw, ww]) R := ⟨fw, ww, rfl, (ownE_ints oF ⟨by omega, hF.1.2⟩).ext x14, (oW.rows (by omega)).ext x14⟩
      have aT4 : RibAt G4 (.agg [.int .i64 R.L, fw2, ww2]) R := aT.ext (x3.trans x4)
      have pO4 : Rows encC G4 pw p := (oP.rows (by omega)).ext x4
      have gc4 : G4[h.length]? = some (ribB R.L fv wv) := (x1.trans x14).get g0
      have hck := fun base => run_rcheck (base := base) aT4 (by omega) (by omega)
      have g01 := x1.get g0'
      unfold ribB rrbB at eG4
      unfold rrbB at gT4
      by_cases c : chkR R = 0
      · have hok := chkR_iff.1 c
        have hL := hok.L
        rw [c] at hck
        obtain ⟨d1, D1, f1, y1, oD1⟩ := run_rcuts (base := h.length) (h := G4) (by omega) (hP.ext xh4) (by omega)
        have m1 := y1.len
        have od1 := oD1.one
        have hpl := fun base => run_rplan (base := base) (aT4.ext y1) hok (oD1.rows (by omega))
        have gT5 := y1.get gT4
        have ev : plnE R p = ((plnL R p 0 0).1, (plnL R p 0 0).2) := by unfold plnE; rw [if_neg (fun q => q c)]
        by_cases cp : (plnL R p 0 0).2 = 0
        · have t2 : ((plnL R p 0 0).2 = 0) = True := eq_true cp
          obtain ⟨d2, D2, f2, y2, oD2⟩ := run_rcuts (base := h.length) (h := D1) (by omega) (hP.ext (xh4.trans y1)) (by omega)
          have m2 := y2.len
          have od2 := oD2.one
          obtain ⟨dv, Z, f3, y3, oR⟩ := run_rrest (base := h.length) (h := D2) (by omega) (aT4.ext (y1.trans y2)) hok (oD2.rows (by omega)) cp
          have odv := oR.one
          have gT6 := y2.get gT5
          have xZ := (y1.trans y2).trans y3
          obtain ⟨lc, elc⟩ : ∃ lc, lc = spnN (tknL R p []) R.L.toNat := ⟨_, rfl⟩
          have llc : lc.length ≤ 60 := by rw [elc]; have := spnN_len (t := tknL R p []) (n := R.L.toNat); omega
          rw [← elc] at oR
          have hd : Rows encS Z dv lc := oR.rows (by omega)
          have rv : rstE R p = (lc, (plnL R p 0 0).2) := by unfold rstE; rw [ev, cp, if_neg (fun q => q rfl), elc]
          have lZ := xZ.len
          have aO := aO4.ext xZ
          have gO := xZ.get gO4
          have gc := xZ.get gc4
          have pO := pO4.ext xZ
          have c1 := fun base => run_Earns (base := base) aO (by omega) pO
          rw [ev] at c1
          obtain ⟨_, Z1, c2, z1, u, rfl, oC⟩ := run_Rest (base := h.length) (h := Z) (by omega) aO (by omega) pO
          rw [rv] at c2 oC
          have oC : Own encS 69 Z.length Z1 u lc := oC
          have lz1 := z1.len
          have ou := oC.one
          have q1 := fun base => run_eqS (base := base) (oC.rows (by omega)) (hd.ext z1) (by omega)
          have q3 := fun base => run_same (base := base) (aO.ext z1) (hA.ext (xh4.trans (xZ.trans z1))) (by omega)
          have q4 := fun base => run_eqC (base := base) (pO.ext z1) (hP.ext (xh4.trans (xZ.trans z1))) (by omega)
          have q5 := fun base => run_awake (base := base) (h := Z1)
          have gO1 := z1.get gO
          have gc1 := z1.get gc
          unfold ribB at gO gO1 gc1
          have hsp := @Nat.succ_ne_zero; repeat' (first | simp (disch := first | exact dschN33 | fail) only [go_sem, ↓reduceIte, hsp, ← eG0, g0', hg, hlp, t1, e1, g01, e2, e3, ← eG4, gT4, hck, eq_self, f1, gT5, hpl, t2, f2, gT6, f3, gO, c1, c2, gO1, decide_true, q1, q3, q4, q5, gc1] | refine WP_drw ?_ | refine cnd_intro (fun hsp => ?_) fun hsp => ?_)
          exact fB rfl (xh4.trans (xZ.trans z1))
        · have t2 : ((plnL R p 0 0).2 = 0) = False := eq_false cp
          obtain ⟨Z, eZ⟩ : ∃ Z, Z = D1 := ⟨_, rfl⟩
          have xZ : Ext G4 Z := by rw [eZ]; exact y1
          rw [← eZ] at f1 gT5 hpl
          obtain ⟨lc, elc⟩ : ∃ lc : List (Int × Int), lc = [] := ⟨_, rfl⟩
          have llc : lc.length ≤ 60 := by rw [elc]; simp
          have hd : Rows encS Z (.slice none 0 0) lc := by rw [elc]; exact Rows.nil
          have rv : rstE R p = (lc, (plnL R p 0 0).2) := by unfold rstE; rw [ev, if_pos cp, elc]
          have lZ := xZ.len
          have aO := aO4.ext xZ
          have gO := xZ.get gO4
          have gc := xZ.get gc4
          have pO := pO4.ext xZ
          have c1 := fun base => run_Earns (base := base) aO (by omega) pO
          rw [ev] at c1
          obtain ⟨_, Z1, c2, z1, u, rfl, oC⟩ := run_Rest (base := h.length) (h := Z) (by omega) aO (by omega) pO
          rw [rv] at c2 oC
          have oC : Own encS 69 Z.length Z1 u lc := oC
          have lz1 := z1.len
          have ou := oC.one
          have q1 := fun base => run_eqS (base := base) (oC.rows (by omega)) (hd.ext z1) (by omega)
          have q3 := fun base => run_same (base := base) (aO.ext z1) (hA.ext (xh4.trans (xZ.trans z1))) (by omega)
          have q4 := fun base => run_eqC (base := base) (pO.ext z1) (hP.ext (xh4.trans (xZ.trans z1))) (by omega)
          have q5 := fun base => run_awake (base := base) (h := Z1)
          have gO1 := z1.get gO
          have gc1 := z1.get gc
          unfold ribB at gO gO1 gc1
          have hsp := @Nat.succ_ne_zero; repeat' (first | simp (disch := first | exact dschN33 | fail) only [go_sem, ↓reduceIte, hsp, ← eG0, g0', hg, hlp, t1, e1, g01, e2, e3, ← eG4, gT4, hck, eq_self, f1, gT5, hpl, t2, gO, c1, c2, gO1, decide_true, q1, q3, q4, q5, gc1] | refine WP_drw ?_ | refine cnd_intro (fun hsp => ?_) fun hsp => ?_)
          exact fB rfl (xh4.trans (xZ.trans z1))
      · have tu : (chkR R = 0) = False := eq_false c
        obtain ⟨Z, eZ⟩ : ∃ Z, Z = G4 := ⟨_, rfl⟩
        have xZ : Ext G4 Z := by rw [eZ]; exact .refl
        rw [← eZ] at eG4 gT4 hck
        obtain ⟨lc, elc⟩ : ∃ lc : List (Int × Int), lc = [] := ⟨_, rfl⟩
        have llc : lc.length ≤ 60 := by rw [elc]; simp
        have hd : Rows encS Z (.slice none 0 0) lc := by rw [elc]; exact Rows.nil
        have ev : plnE R p = (0, chkR R) := by unfold plnE; rw [if_pos c]
        have rv : rstE R p = (lc, chkR R) := by unfold rstE; rw [ev, if_pos c, elc]
        have lZ := xZ.len
        have aO := aO4.ext xZ
        have gO := xZ.get gO4
        have gc := xZ.get gc4
        have pO := pO4.ext xZ
        have c1 := fun base => run_Earns (base := base) aO (by omega) pO
        rw [ev] at c1
        obtain ⟨_, Z1, c2, z1, u, rfl, oC⟩ := run_Rest (base := h.length) (h := Z) (by omega) aO (by omega) pO
        rw [rv] at c2 oC
        have oC : Own encS 69 Z.length Z1 u lc := oC
        have lz1 := z1.len
        have ou := oC.one
        have q1 := fun base => run_eqS (base := base) (oC.rows (by omega)) (hd.ext z1) (by omega)
        have q3 := fun base => run_same (base := base) (aO.ext z1) (hA.ext (xh4.trans (xZ.trans z1))) (by omega)
        have q4 := fun base => run_eqC (base := base) (pO.ext z1) (hP.ext (xh4.trans (xZ.trans z1))) (by omega)
        have q5 := fun base => run_awake (base := base) (h := Z1)
        have gO1 := z1.get gO
        have gc1 := z1.get gc
        unfold ribB at gO gO1 gc1
        have hsp := @Nat.succ_ne_zero; repeat' (first | simp (disch := first | exact dschN33 | fail) only [go_sem, ↓reduceIte, hsp, ← eG0, g0', hg, hlp, t1, e1, g01, e2, e3, ← eG4, gT4, hck, eq_self, tu, gO, c1, c2, gO1, decide_true, q1, q3, q4, q5, gc1] | refine WP_drw ?_ | refine cnd_intro (fun hsp => ?_) fun hsp => ?_)
        exact fB rfl (xh4.trans (xZ.trans z1))
end Go.AM
