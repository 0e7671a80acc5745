/-
  The statement of CutRibbons, out of what the abstract machine says of it (by wip/tools/bridge7.py).
-/
import Derived.Test.YtikgghhceolaeaaU19
set_option linter.unusedSimpArgs false
set_option linter.unusedVariables false
namespace Go.AM
open Go.Proofs.Try Go.RowKit Go.ChangeShapes Go.WideShapes Go.ChangeAt
open Go.Proofs.Ytikgghhceolaeaa
set_option maxRecDepth 100000
theorem cutRibbons_contract (hrun : ∀ {base : Nat} {h : Heap} {v0 v1 v2 : AVal}, RibN 1048576 h v0 → CutV h v1 → IntV h v2 →  callL prog raw base (.fn 7 [] []) [v0, v1, v2] h = some (.bool true, h))
    (H : Type) (enc : TypeId × Value → H) (W : World) (base : Nat) (args : Array Value) (ds gs : List (DataW H)) (before : List MemPlace)
    (hval : ∀ (j : Nat) t v, f7.params[j]? = some t → args[j]? = some v → Value.okWide prog W .any base t v)
    (hW : DataW.Whole enc prog f7.params.toList Rows.cutRibbonsSpec.vars false W args.toList ds gs before) (hk : Rows.uptoSmall H (ds ++ gs) = true) :
    Calls prog 7 args W fun e W' => ∃ v, e = .returned v ∧ Rows.cutRibbonsSpec.post enc prog f7 false true false false W args v W' := by
  have hW' := hW
  obtain ⟨p, q, hA0, hV, rfl, hfz, hnd⟩ := hW
  obtain ⟨rfl, rfl⟩ := trodVars_none hV
  have hA : DataW.TrodAll enc prog W 0 (fun _ => true) true f7.params.toList args.toList ds p := hA0
  rw [params7] at hA hval
  obtain ⟨V0, vs0, d0, ds0, p0, q0, hargs, rfl, rfl, h0, r0⟩ := trodAll_cons hA
  obtain ⟨V1, vs1, d1, ds1, p1, q1, rfl, rfl, rfl, h1, r1⟩ := trodAll_cons r0
  obtain ⟨V2, vs2, d2, ds2, p2, q2, rfl, rfl, rfl, h2, r2⟩ := trodAll_cons r1
  obtain ⟨rfl, rfl, rfl⟩ := trodAll_nil r2
  obtain rfl : args = #[V0, V1, V2] := by cases args; simp_all
  have hb := of_decide_eq_true hk
  simp only [List.append_nil, Rows.uptoBulkAll] at hb
  obtain ⟨S, vs, hok, hvr, hq⟩ := (opens_cons (Q := RibN 1048576) (opens_rib (N := 1048576) (by decide) (hval 0 25 V0 rfl rfl) h0 (by omega)) (opens_cons (Q := CutV) (opens_cutV (hval 1 58 V1 rfl rfl) h1) (opens_cons (Q := IntV) (opens_intV (hval 2 3 V2 rfl rfl) h2) opens_nil (fun _ _ _ h _ => h)) (fun _ _ _ h _ => h)) (fun _ _ _ h e => h.ext e)) [] (fun x hx => by cases hx)
  obtain ⟨v0, _, rfl, k0, v1, _, rfl, k1, v2, _, rfl, k2, rfl⟩ := hq
  have hc := calls_trueG (f := 7) (A := #[V0, V1, V2]) hok hvr (hrun (k0) (k1) (k2))
  have hrd : ∀ t ∈ f7.params.toList, prog.readableRec t = true ∧ t < prog.types.size := by
    rw [params7]
    intro t ht
    simp only [List.mem_cons, List.not_mem_nil, or_false] at ht
    rcases ht with rfl | rfl | rfl
    all_goals exact ⟨by kernel_rfl, of_decide_eq_true (by kernel_rfl)⟩
  refine hc.mono fun e W' ⟨he, hbel⟩ => ?_
  subst he
  exact ⟨_, rfl, post_below laid hrd hbel rfl hW' (fun _ _ _ => trodAll_cons_mk (shut_bool underlying4 _) trodAll_mk0) rfl rfl (ok_one (by kernel_rfl) rfl (okWide_bool_mk underlying4 _))⟩
theorem cutRibbons_lifted (hrun : ∀ {base : Nat} {h : Heap} {v0 v1 v2 : AVal}, RibN 1048576 h v0 → CutV h v1 → IntV h v2 →  callL prog raw base (.fn 7 [] []) [v0, v1, v2] h = some (.bool true, h))
    (os : Os) (started : os.Started) (H : Type) (enc : TypeId × Value → H) (F : Stop.Interp) :
    ReturnsInHanded {} Go.Proofs.Try.checked os 7 .any ((Rows.OpenSpec.upto Rows.cutRibbonsSpec).pre6 enc prog f7 Rows.cutRibbonsUptoRow.domain false) (((Rows.OpenSpec.upto Rows.cutRibbonsSpec).at F).post enc prog f7 false true false false) := by
  refine returnsInHanded_of_cond (C := Go.Proofs.Try.checked) (s := Rows.OpenSpec.upto Rows.cutRibbonsSpec) (k := Rows.uptoSmall) rfl own started (by kernel_rfl) func7
    (OpenSpec.witness (enc := enc) (C := Go.Proofs.Try.checked) (s := Rows.OpenSpec.upto Rows.cutRibbonsSpec) (k := Rows.uptoSmall) rfl false ⟨#[], #[.agg #[.int .i64 0, .slice none 0 0, .slice none 0 0], .agg #[.int .i64 0, .int .i64 0, .bool false], .int .i64 0], []⟩ 8 (by kernel_rfl) (by kernel_rfl) (by kernel_rfl)
      (x := ([.agg [.lit (.int .i64 0), .nil, .nil], .agg [.lit (.int .i64 0), .lit (.int .i64 0), .lit (.bool false)], .lit (.int .i64 0)], [], [])) (by kernel_rfl) rfl (by kernel_rfl)) ?_
  intro W base args ds gs before hval hW _ hk _
  exact cutRibbons_contract hrun H enc W base args ds gs before hval hW hk
theorem cutRibbons_over (hrun : ∀ {base : Nat} {h : Heap} {v0 v1 v2 : AVal}, RibN 1048576 h v0 → CutV h v1 → IntV h v2 →  callL prog raw base (.fn 7 [] []) [v0, v1, v2] h = some (.bool true, h)) :
    Rows.CutRibbonsUptoSaid :=
  OpenClaim.holds_of_cond 7 f7 rfl rfl rfl rfl rfl rfl rfl ⟨rfl, rfl, rfl, rfl, rfl⟩ rfl rfl rfl rfl rfl (by kernel_rfl) func7 (by kernel_rfl)
    (of_decide_eq_true (by kernel_rfl)) (by unfold Func.isWrapper; first | (rw [if_pos (by decide +kernel)]; kernel_rfl) | (rw [if_neg (by decide +kernel)]; exact ⟨rfl, rfl⟩))
    (fun os started H enc _ F => cutRibbons_lifted hrun os started H enc F)
end Go.AM
