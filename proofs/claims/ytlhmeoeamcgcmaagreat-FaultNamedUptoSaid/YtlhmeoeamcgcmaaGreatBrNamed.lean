/-
  The statement of FaultNamed, out of what the abstract machine says of it (by wip/tools/bridge4.py).
-/
import Derived.Test.YtlhmeoeamcgcmaaGreatB5
set_option linter.unusedSimpArgs false
set_option linter.unusedVariables false
namespace Go.AM
open Go.Proofs.Tryz Go.RowKit Go.ChangeShapes Go.WideShapes Go.ChangeAt
open Go.Proofs.YtlhmeoeamcgcmaaGreat
set_option maxRecDepth 100000
theorem faultNamed_contract (hrun : ∀ {base : Nat} {h : Heap} {v0 v1 : AVal} {l0 l1 : List Int} {x2 : Int}, Bytes h v0 l0 → Bytes h v1 l1 → l0.length ≤ 1048576 → l1.length ≤ 1048576 → 0 ≤ x2 ∧ x2 ≤ 65535 →  callL prog raw base (.fn 10 [] []) [v0, v1, .int .u16 x2] h = some (.bool true, h))
    (H : Type) (enc : TypeId × Value → H) (W : World) (base : Nat) (args : Array Value) (ds gs : List (DataW H)) (before : List MemPlace)
    (hval : ∀ (j : Nat) t v, f10.params[j]? = some t → args[j]? = some v → Value.okWide prog W .any base t v)
    (hW : DataW.Whole enc prog f10.params.toList Rows.faultNamedSpec.vars false W args.toList ds gs before) (hk : Rows.uptoSmall H (ds ++ gs) = true) :
    Calls prog 10 args W fun e W' => ∃ v, e = .returned v ∧ Rows.faultNamedSpec.post enc prog f10 false true false false W args v W' := by
  have hW' := hW
  obtain ⟨p, q, hA0, hV, rfl, hfz, hnd⟩ := hW
  obtain ⟨rfl, rfl⟩ := trodVars_none hV
  have hA : DataW.TrodAll enc prog W 0 (fun _ => true) true f10.params.toList args.toList ds p := hA0
  rw [params10] at hA hval
  obtain ⟨v0, vs0, d0, ds0, p0, q0, hargs, rfl, rfl, h0, r0⟩ := trodAll_cons hA
  obtain ⟨v1, vs1, d1, ds1, p1, q1, rfl, rfl, rfl, h1, r1⟩ := trodAll_cons r0
  obtain ⟨v2, vs2, d2, ds2, p2, q2, rfl, rfl, rfl, h2, r2⟩ := trodAll_cons r1
  obtain ⟨rfl, rfl, rfl⟩ := trodAll_nil r2
  obtain rfl : args = #[v0, v1, v2] := by cases args; simp_all
  obtain ⟨V0, rfl⟩ : ∃ V, V = v0 := ⟨_, rfl⟩
  obtain ⟨rw0, zs0, len0, cap0, sl0, bk0⟩ := openByt (hval 0 84 V0 rfl rfl) h0
  obtain ⟨V1, rfl⟩ : ∃ V, V = v1 := ⟨_, rfl⟩
  obtain ⟨rw1, zs1, len1, cap1, sl1, bk1⟩ := openByt (hval 1 84 V1 rfl rfl) h1
  obtain ⟨x2, rfl, rfl, -, wf2⟩ := open_int underlying119 (hval 2 119 v2 rfl rfl) h2
  have hb := of_decide_eq_true hk
  simp only [List.append_nil, Rows.uptoBulkAll] at hb
  have hR0 : ∀ x ∈ ([] : List Rw), x.ok W := by simp
  obtain ⟨R0, hR100, kp0, at0⟩ := sl0.add hR0
  obtain ⟨R1, hR101, kp1, at1⟩ := sl1.add hR100
  obtain ⟨v0, hv0, hI0⟩ := sl0.bytes (R := R1) (fun hc => kp1 _ _ (at0 hc)) (by omega)
  obtain ⟨v1, hv1, hI1⟩ := sl1.bytes (R := R1) (fun hc => at1 hc) (by omega)
  have hl0 := sl0.le
  have hl1 := sl1.le
  have hc := calls_true (f := 10) (args := [v0, v1, .int .u16 x2]) (A := #[V0, V1, .int .u16 x2]) (R := R1) hR101
    (.cons hv0 (.cons hv1 (.cons (.int _ _) .nil))) (hrun hI0 hI1 (by rw [List.length_take]; omega) (by rw [List.length_take]; omega) (by have := wf2; simp [Lit.wf, IntKind.min, IntKind.max, IntKind.signed, IntKind.bits] at this; omega))
  have hrd : ∀ t ∈ f10.params.toList, prog.readableRec t = true ∧ t < prog.types.size := by
    rw [params10]
    intro t ht
    simp only [List.mem_cons, List.not_mem_nil, or_false] at ht
    rcases ht with rfl | rfl | rfl
    all_goals exact ⟨by kernel_rfl, of_decide_eq_true (by kernel_rfl)⟩
  refine hc.mono fun e W' ⟨he, hbel⟩ => ?_
  subst he
  exact ⟨_, rfl, post_below laid hrd hbel rfl hW' (fun _ _ _ => trodAll_cons_mk (shut_bool underlying4 _) trodAll_mk0) rfl rfl (ok_one (by kernel_rfl) rfl (okWide_bool_mk underlying4 _))⟩
theorem faultNamed_lifted (hrun : ∀ {base : Nat} {h : Heap} {v0 v1 : AVal} {l0 l1 : List Int} {x2 : Int}, Bytes h v0 l0 → Bytes h v1 l1 → l0.length ≤ 1048576 → l1.length ≤ 1048576 → 0 ≤ x2 ∧ x2 ≤ 65535 →  callL prog raw base (.fn 10 [] []) [v0, v1, .int .u16 x2] h = some (.bool true, h))
    (os : Os) (started : os.Started) (H : Type) (enc : TypeId × Value → H) (F : Stop.Interp) :
    ReturnsInHanded {} Go.Proofs.Tryz.checked os 10 .any ((Rows.OpenSpec.upto Rows.faultNamedSpec).pre6 enc prog f10 Rows.faultNamedUptoRow.domain false) (((Rows.OpenSpec.upto Rows.faultNamedSpec).at F).post enc prog f10 false true false false) := by
  refine returnsInHanded_of_cond (C := Go.Proofs.Tryz.checked) (s := Rows.OpenSpec.upto Rows.faultNamedSpec) (k := Rows.uptoSmall) rfl own started (by kernel_rfl) func10
    (OpenSpec.witness (enc := enc) (C := Go.Proofs.Tryz.checked) (s := Rows.OpenSpec.upto Rows.faultNamedSpec) (k := Rows.uptoSmall) rfl false ⟨#[], #[.slice none 0 0, .slice none 0 0, .int .u16 0], []⟩ 8 (by kernel_rfl) (by kernel_rfl) (by kernel_rfl)
      (x := ([.nil, .nil, .lit (.int .u16 0)], [], [])) (by kernel_rfl) rfl (by kernel_rfl)) ?_
  intro W base args ds gs before hval hW _ hk _
  exact faultNamed_contract hrun H enc W base args ds gs before hval hW hk
theorem faultNamed_over (hrun : ∀ {base : Nat} {h : Heap} {v0 v1 : AVal} {l0 l1 : List Int} {x2 : Int}, Bytes h v0 l0 → Bytes h v1 l1 → l0.length ≤ 1048576 → l1.length ≤ 1048576 → 0 ≤ x2 ∧ x2 ≤ 65535 →  callL prog raw base (.fn 10 [] []) [v0, v1, .int .u16 x2] h = some (.bool true, h)) :
    Rows.FaultNamedUptoSaid :=
  OpenClaim.holds_of_cond 10 f10 rfl rfl rfl rfl rfl rfl rfl ⟨rfl, rfl, rfl, rfl, rfl⟩ rfl rfl rfl rfl rfl (by kernel_rfl) func10 (by kernel_rfl)
    (of_decide_eq_true (by kernel_rfl)) (by unfold Func.isWrapper; first | (rw [if_pos (by decide +kernel)]; kernel_rfl) | (rw [if_neg (by decide +kernel)]; exact ⟨rfl, rfl⟩))
    (fun os started H enc _ F => faultNamed_lifted hrun os started H enc F)
end Go.AM
