/-
  The statement of CardSmall, out of what the abstract machine says of it (by wip/tools/bridge2.py).
-/
import Derived.Test.YtppkmjfplhenmaaBr5
set_option linter.unusedSimpArgs false
set_option linter.unusedVariables false
namespace Go.AM
open Go.Proofs.Try Go.RowKit Go.ChangeShapes Go.WideShapes Go.ChangeAt
open Go.Proofs.Ytppkmjfplhenmaa
set_option maxRecDepth 100000

theorem cardSmall_contract (hrun : ∀ {base : Nat} {h : Heap},  callL prog raw base (.fn 18 [] []) [] h = some (.bool true, h))
    (H : Type) (enc : TypeId × Value → H) (W : World) (base : Nat) (args : Array Value) (ds gs : List (DataW H)) (before : List MemPlace)
    (hval : ∀ (j : Nat) t v, f18.params[j]? = some t → args[j]? = some v → Value.okWide prog W .any base t v)
    (hW : DataW.Whole enc prog f18.params.toList Rows.cardSmallSpec.vars false W args.toList ds gs before) (hk : Rows.uptoSmall H (ds ++ gs) = true) :
    Calls prog 18 args W fun e W' => ∃ v, e = .returned v ∧ Rows.cardSmallSpec.post enc prog f18 false true false false W args v W' := by
  have hW' := hW
  obtain ⟨p, q, hA0, hV, rfl, hfz, hnd⟩ := hW
  obtain ⟨rfl, rfl⟩ := trodVars_none hV
  have hA : DataW.TrodAll enc prog W 0 (fun _ => true) true f18.params.toList args.toList ds p := hA0
  rw [params18] at hA hval
  obtain ⟨hargs, rfl, rfl⟩ := trodAll_nil hA
  obtain rfl : args = #[] := by cases args; simp_all
  have hb := of_decide_eq_true hk
  simp only [List.append_nil, Rows.uptoBulkAll] at hb
  have hR0 : ∀ x ∈ ([] : List Rw), x.ok W := by simp
  have hc := calls_true (f := 18) (args := []) (A := #[]) (R := ([] : List Rw)) hR0
    .nil hrun
  have hrd : ∀ t ∈ f18.params.toList, prog.readableRec t = true ∧ t < prog.types.size := by
    rw [params18]
    intro t ht
    cases ht
  refine hc.mono fun e W' ⟨he, hbel⟩ => ?_
  subst he
  exact ⟨_, rfl, post_below laid hrd hbel rfl hW' (fun _ _ _ => trodAll_cons_mk (shut_bool underlying4 _) trodAll_mk0) rfl rfl (ok_one (by kernel_rfl) rfl (okWide_bool_mk underlying4 _))⟩

theorem cardSmall_lifted (hrun : ∀ {base : Nat} {h : Heap},  callL prog raw base (.fn 18 [] []) [] h = some (.bool true, h))
    (os : Os) (started : os.Started) (H : Type) (enc : TypeId × Value → H) (F : Stop.Interp) :
    ReturnsInHanded {} Go.Proofs.Try.checked os 18 .any ((Rows.OpenSpec.upto Rows.cardSmallSpec).pre6 enc prog f18 Rows.cardSmallUptoRow.domain false) (((Rows.OpenSpec.upto Rows.cardSmallSpec).at F).post enc prog f18 false true false false) := by
  refine returnsInHanded_of_cond (C := Go.Proofs.Try.checked) (s := Rows.OpenSpec.upto Rows.cardSmallSpec) (k := Rows.uptoSmall) rfl own started (by kernel_rfl) func18
    (OpenSpec.witness (enc := enc) (C := Go.Proofs.Try.checked) (s := Rows.OpenSpec.upto Rows.cardSmallSpec) (k := Rows.uptoSmall) rfl false ⟨#[], #[], []⟩ 8 (by kernel_rfl) (by kernel_rfl) (by kernel_rfl)
      (x := ([], [], [])) (by kernel_rfl) rfl (by kernel_rfl)) ?_
  intro W base args ds gs before hval hW _ hk _
  exact cardSmall_contract hrun H enc W base args ds gs before hval hW hk

theorem cardSmall_over (hrun : ∀ {base : Nat} {h : Heap},  callL prog raw base (.fn 18 [] []) [] h = some (.bool true, h)) :
    Rows.CardSmallUptoSaid :=
  OpenClaim.holds_of_cond 18 f18 rfl rfl rfl rfl rfl rfl rfl ⟨rfl, rfl, rfl, rfl, rfl⟩ rfl rfl rfl rfl rfl (by kernel_rfl) func18 (by kernel_rfl)
    (of_decide_eq_true (by kernel_rfl)) (by unfold Func.isWrapper; first | (rw [if_pos (by decide +kernel)]; kernel_rfl) | (rw [if_neg (by decide +kernel)]; exact ⟨rfl, rfl⟩))
    (fun os started H enc _ F => cardSmall_lifted hrun os started H enc F)
end Go.AM
