/-
  The statement of FaultFound, out of what the abstract machine says of it (by wip/tools/bridge4.py).
-/
import Derived.Test.YtlhmeoeamcgcmaaB1
set_option linter.unusedSimpArgs false
set_option linter.unusedVariables false
namespace Go.AM
open Go.Proofs.Try Go.RowKit Go.ChangeShapes Go.WideShapes Go.ChangeAt
open Go.Proofs.Ytlhmeoeamcgcmaa
set_option maxRecDepth 100000

theorem faultFound_contract (hrun : ∀ {base : Nat} {h : Heap} {v0 v1 : AVal} {l0 l1 : List Int}, Bytes h v0 l0 → Bytes h v1 l1 → l0.length ≤ 1048576 → l1.length ≤ 1048576 →  callL prog raw base (.fn 8 [] []) [v0, v1] h = some (.bool true, h))
    (H : Type) (enc : TypeId × Value → H) (W : World) (base : Nat) (args : Array Value) (ds gs : List (DataW H)) (before : List MemPlace)
    (hval : ∀ (j : Nat) t v, f8.params[j]? = some t → args[j]? = some v → Value.okWide prog W .any base t v)
    (hW : DataW.Whole enc prog f8.params.toList Rows.faultFoundSpec.vars false W args.toList ds gs before) (hk : Rows.uptoSmall H (ds ++ gs) = true) :
    Calls prog 8 args W fun e W' => ∃ v, e = .returned v ∧ Rows.faultFoundSpec.post enc prog f8 false true false false W args v W' := by
  have hW' := hW
  obtain ⟨p, q, hA0, hV, rfl, hfz, hnd⟩ := hW
  obtain ⟨rfl, rfl⟩ := trodVars_none hV
  have hA : DataW.TrodAll enc prog W 0 (fun _ => true) true f8.params.toList args.toList ds p := hA0
  rw [params8] at hA hval
  obtain ⟨v0, vs0, d0, ds0, p0, q0, hargs, rfl, rfl, h0, r0⟩ := trodAll_cons hA
  obtain ⟨v1, vs1, d1, ds1, p1, q1, rfl, rfl, rfl, h1, r1⟩ := trodAll_cons r0
  obtain ⟨rfl, rfl, rfl⟩ := trodAll_nil r1
  obtain rfl : args = #[v0, v1] := by cases args; simp_all
  obtain ⟨V0, rfl⟩ : ∃ V, V = v0 := ⟨_, rfl⟩
  obtain ⟨rw0, zs0, len0, cap0, sl0, bk0⟩ := openByt (hval 0 22 V0 rfl rfl) h0
  obtain ⟨V1, rfl⟩ : ∃ V, V = v1 := ⟨_, rfl⟩
  obtain ⟨rw1, zs1, len1, cap1, sl1, bk1⟩ := openByt (hval 1 22 V1 rfl rfl) h1
  have hb := of_decide_eq_true hk
  simp only [List.append_nil, Rows.uptoBulkAll] at hb
  have hR0 : ∀ x ∈ ([] : List Rw), x.ok W := by simp
  obtain ⟨R0, hR100, kp0, at0⟩ := sl0.add hR0
  obtain ⟨R1, hR101, kp1, at1⟩ := sl1.add hR100
  obtain ⟨v0, hv0, hI0⟩ := sl0.bytes (R := R1) (fun hc => kp1 _ _ (at0 hc)) (by omega)
  obtain ⟨v1, hv1, hI1⟩ := sl1.bytes (R := R1) (fun hc => at1 hc) (by omega)
  have hl0 := sl0.le
  have hl1 := sl1.le
  have hc := calls_true (f := 8) (args := [v0, v1]) (A := #[V0, V1]) (R := R1) hR101
    (.cons hv0 (.cons hv1 .nil)) (hrun hI0 hI1 (by rw [List.length_take]; omega) (by rw [List.length_take]; omega))
  have hrd : ∀ t ∈ f8.params.toList, prog.readableRec t = true ∧ t < prog.types.size := by
    rw [params8]
    intro t ht
    simp only [List.mem_cons, List.not_mem_nil, or_false] at ht
    rcases ht with rfl | rfl
    all_goals exact ⟨by kernel_rfl, of_decide_eq_true (by kernel_rfl)⟩
  refine hc.mono fun e W' ⟨he, hbel⟩ => ?_
  subst he
  exact ⟨_, rfl, post_below laid hrd hbel rfl hW' (fun _ _ _ => trodAll_cons_mk (shut_bool underlying4 _) trodAll_mk0) rfl rfl (ok_one (by kernel_rfl) rfl (okWide_bool_mk underlying4 _))⟩

theorem faultFound_lifted (hrun : ∀ {base : Nat} {h : Heap} {v0 v1 : AVal} {l0 l1 : List Int}, Bytes h v0 l0 → Bytes h v1 l1 → l0.length ≤ 1048576 → l1.length ≤ 1048576 →  callL prog raw base (.fn 8 [] []) [v0, v1] h = some (.bool true, h))
    (os : Os) (started : os.Started) (H : Type) (enc : TypeId × Value → H) (F : Stop.Interp) :
    ReturnsInHanded {} Go.Proofs.Try.checked os 8 .any ((Rows.OpenSpec.upto Rows.faultFoundSpec).pre6 enc prog f8 Rows.faultFoundUptoRow.domain false) (((Rows.OpenSpec.upto Rows.faultFoundSpec).at F).post enc prog f8 false true false false) := by
  refine returnsInHanded_of_cond (C := Go.Proofs.Try.checked) (s := Rows.OpenSpec.upto Rows.faultFoundSpec) (k := Rows.uptoSmall) rfl own started (by kernel_rfl) func8
    (OpenSpec.witness (enc := enc) (C := Go.Proofs.Try.checked) (s := Rows.OpenSpec.upto Rows.faultFoundSpec) (k := Rows.uptoSmall) rfl false ⟨#[], #[.slice none 0 0, .slice none 0 0], []⟩ 8 (by kernel_rfl) (by kernel_rfl) (by kernel_rfl)
      (x := ([.nil, .nil], [], [])) (by kernel_rfl) rfl (by kernel_rfl)) ?_
  intro W base args ds gs before hval hW _ hk _
  exact faultFound_contract hrun H enc W base args ds gs before hval hW hk

theorem faultFound_over (hrun : ∀ {base : Nat} {h : Heap} {v0 v1 : AVal} {l0 l1 : List Int}, Bytes h v0 l0 → Bytes h v1 l1 → l0.length ≤ 1048576 → l1.length ≤ 1048576 →  callL prog raw base (.fn 8 [] []) [v0, v1] h = some (.bool true, h)) :
    Rows.FaultFoundUptoSaid :=
  OpenClaim.holds_of_cond 8 f8 rfl rfl rfl rfl rfl rfl rfl ⟨rfl, rfl, rfl, rfl, rfl⟩ rfl rfl rfl rfl rfl (by kernel_rfl) func8 (by kernel_rfl)
    (of_decide_eq_true (by kernel_rfl)) (by unfold Func.isWrapper; first | (rw [if_pos (by decide +kernel)]; kernel_rfl) | (rw [if_neg (by decide +kernel)]; exact ⟨rfl, rfl⟩))
    (fun os started H enc _ F => faultFound_lifted hrun os started H enc F)
end Go.AM
