/-
  The statement of FaultCards, out of what the abstract machine says of it (by wip/tools/bridge4.py).
-/
import Derived.Test.YtlhmeoeamcgcmaaGreatB5
set_option linter.unusedSimpArgs false
set_option linter.unusedVariables false
namespace Go.AM
open Go.Proofs.Tryz Go.RowKit Go.ChangeShapes Go.WideShapes Go.ChangeAt
open Go.Proofs.YtlhmeoeamcgcmaaGreat
set_option maxRecDepth 100000
theorem faultCards_contract (hrun : ∀ {base : Nat} {h : Heap} {v0 : AVal} {l0 : List Int} {x1 x2 x3 : Int}, Bytes h v0 l0 → l0.length ≤ 1048576 → 0 ≤ x1 ∧ x1 ≤ 255 → 0 ≤ x2 ∧ x2 ≤ 255 → 0 ≤ x3 ∧ x3 ≤ 255 →  callL prog raw base (.fn 7 [] []) [v0, .int .u8 x1, .int .u8 x2, .int .u8 x3] h = some (.bool true, h))
    (H : Type) (enc : TypeId × Value → H) (W : World) (base : Nat) (args : Array Value) (ds gs : List (DataW H)) (before : List MemPlace)
    (hval : ∀ (j : Nat) t v, f7.params[j]? = some t → args[j]? = some v → Value.okWide prog W .any base t v)
    (hW : DataW.Whole enc prog f7.params.toList Rows.faultCardsSpec.vars false W args.toList ds gs before) (hk : Rows.uptoSmall H (ds ++ gs) = true) :
    Calls prog 7 args W fun e W' => ∃ v, e = .returned v ∧ Rows.faultCardsSpec.post enc prog f7 false true false false W args v W' := by
  have hW' := hW
  obtain ⟨p, q, hA0, hV, rfl, hfz, hnd⟩ := hW
  obtain ⟨rfl, rfl⟩ := trodVars_none hV
  have hA : DataW.TrodAll enc prog W 0 (fun _ => true) true f7.params.toList args.toList ds p := hA0
  rw [params7] at hA hval
  obtain ⟨v0, vs0, d0, ds0, p0, q0, hargs, rfl, rfl, h0, r0⟩ := trodAll_cons hA
  obtain ⟨v1, vs1, d1, ds1, p1, q1, rfl, rfl, rfl, h1, r1⟩ := trodAll_cons r0
  obtain ⟨v2, vs2, d2, ds2, p2, q2, rfl, rfl, rfl, h2, r2⟩ := trodAll_cons r1
  obtain ⟨v3, vs3, d3, ds3, p3, q3, rfl, rfl, rfl, h3, r3⟩ := trodAll_cons r2
  obtain ⟨rfl, rfl, rfl⟩ := trodAll_nil r3
  obtain rfl : args = #[v0, v1, v2, v3] := by cases args; simp_all
  obtain ⟨V0, rfl⟩ : ∃ V, V = v0 := ⟨_, rfl⟩
  obtain ⟨rw0, zs0, len0, cap0, sl0, bk0⟩ := openByt (hval 0 84 V0 rfl rfl) h0
  obtain ⟨x1, rfl, rfl, -, wf1⟩ := open_int underlying5 (hval 1 5 v1 rfl rfl) h1
  obtain ⟨x2, rfl, rfl, -, wf2⟩ := open_int underlying5 (hval 2 5 v2 rfl rfl) h2
  obtain ⟨x3, rfl, rfl, -, wf3⟩ := open_int underlying5 (hval 3 5 v3 rfl rfl) h3
  have hb := of_decide_eq_true hk
  simp only [List.append_nil, Rows.uptoBulkAll] at hb
  have hR0 : ∀ x ∈ ([] : List Rw), x.ok W := by simp
  obtain ⟨R0, hR100, kp0, at0⟩ := sl0.add hR0
  obtain ⟨v0, hv0, hI0⟩ := sl0.bytes (R := R0) (fun hc => at0 hc) (by omega)
  have hl0 := sl0.le
  have hc := calls_true (f := 7) (args := [v0, .int .u8 x1, .int .u8 x2, .int .u8 x3]) (A := #[V0, .int .u8 x1, .int .u8 x2, .int .u8 x3]) (R := R0) hR100
    (.cons hv0 (.cons (.int _ _) (.cons (.int _ _) (.cons (.int _ _) .nil)))) (hrun hI0 (by rw [List.length_take]; omega) (by have := wf1; simp [Lit.wf, IntKind.min, IntKind.max, IntKind.signed, IntKind.bits] at this; omega) (by have := wf2; simp [Lit.wf, IntKind.min, IntKind.max, IntKind.signed, IntKind.bits] at this; omega) (by have := wf3; simp [Lit.wf, IntKind.min, IntKind.max, IntKind.signed, IntKind.bits] at this; omega))
  have hrd : ∀ t ∈ f7.params.toList, prog.readableRec t = true ∧ t < prog.types.size := by
    rw [params7]
    intro t ht
    simp only [List.mem_cons, List.not_mem_nil, or_false] at ht
    rcases ht with rfl | rfl | rfl | rfl
    all_goals exact ⟨by kernel_rfl, of_decide_eq_true (by kernel_rfl)⟩
  refine hc.mono fun e W' ⟨he, hbel⟩ => ?_
  subst he
  exact ⟨_, rfl, post_below laid hrd hbel rfl hW' (fun _ _ _ => trodAll_cons_mk (shut_bool underlying4 _) trodAll_mk0) rfl rfl (ok_one (by kernel_rfl) rfl (okWide_bool_mk underlying4 _))⟩
theorem faultCards_lifted (hrun : ∀ {base : Nat} {h : Heap} {v0 : AVal} {l0 : List Int} {x1 x2 x3 : Int}, Bytes h v0 l0 → l0.length ≤ 1048576 → 0 ≤ x1 ∧ x1 ≤ 255 → 0 ≤ x2 ∧ x2 ≤ 255 → 0 ≤ x3 ∧ x3 ≤ 255 →  callL prog raw base (.fn 7 [] []) [v0, .int .u8 x1, .int .u8 x2, .int .u8 x3] h = some (.bool true, h))
    (os : Os) (started : os.Started) (H : Type) (enc : TypeId × Value → H) (F : Stop.Interp) :
    ReturnsInHanded {} Go.Proofs.Tryz.checked os 7 .any ((Rows.OpenSpec.upto Rows.faultCardsSpec).pre6 enc prog f7 Rows.faultCardsUptoRow.domain false) (((Rows.OpenSpec.upto Rows.faultCardsSpec).at F).post enc prog f7 false true false false) := by
  refine returnsInHanded_of_cond (C := Go.Proofs.Tryz.checked) (s := Rows.OpenSpec.upto Rows.faultCardsSpec) (k := Rows.uptoSmall) rfl own started (by kernel_rfl) func7
    (OpenSpec.witness (enc := enc) (C := Go.Proofs.Tryz.checked) (s := Rows.OpenSpec.upto Rows.faultCardsSpec) (k := Rows.uptoSmall) rfl false ⟨#[], #[.slice none 0 0, .int .u8 0, .int .u8 0, .int .u8 0], []⟩ 8 (by kernel_rfl) (by kernel_rfl) (by kernel_rfl)
      (x := ([.nil, .lit (.int .u8 0), .lit (.int .u8 0), .lit (.int .u8 0)], [], [])) (by kernel_rfl) rfl (by kernel_rfl)) ?_
  intro W base args ds gs before hval hW _ hk _
  exact faultCards_contract hrun H enc W base args ds gs before hval hW hk
theorem faultCards_over (hrun : ∀ {base : Nat} {h : Heap} {v0 : AVal} {l0 : List Int} {x1 x2 x3 : Int}, Bytes h v0 l0 → l0.length ≤ 1048576 → 0 ≤ x1 ∧ x1 ≤ 255 → 0 ≤ x2 ∧ x2 ≤ 255 → 0 ≤ x3 ∧ x3 ≤ 255 →  callL prog raw base (.fn 7 [] []) [v0, .int .u8 x1, .int .u8 x2, .int .u8 x3] h = some (.bool true, h)) :
    Rows.FaultCardsUptoSaid :=
  OpenClaim.holds_of_cond 7 f7 rfl rfl rfl rfl rfl rfl rfl ⟨rfl, rfl, rfl, rfl, rfl⟩ rfl rfl rfl rfl rfl (by kernel_rfl) func7 (by kernel_rfl)
    (of_decide_eq_true (by kernel_rfl)) (by unfold Func.isWrapper; first | (rw [if_pos (by decide +kernel)]; kernel_rfl) | (rw [if_neg (by decide +kernel)]; exact ⟨rfl, rfl⟩))
    (fun os started H enc _ F => faultCards_lifted hrun os started H enc F)
end Go.AM
