/-
  The statement of CardPlans, out of what the abstract machine says of it (by wip/tools/bridge.py).
-/
import Derived.Test.YtppkmjfplhenmaaB1
set_option linter.unusedSimpArgs false
set_option linter.unusedVariables false
namespace Go.AM
open Go.Proofs.Try Go.RowKit Go.ChangeShapes Go.WideShapes Go.ChangeAt
open Go.Proofs.Ytppkmjfplhenmaa
set_option maxRecDepth 100000

theorem cardPlans_contract (hrun : ∀ {base : Nat} {h : Heap} {v : AVal} {l : List Int} {w x1 x2 x3 x4 x5 : Int}, Ints h v l → l.length ≤ 1048576 → callL prog raw base (.fn 8 [] []) [pap w v, .int .i64 x1, .int .i64 x2, .int .i64 x3, .int .i64 x4, .int .i64 x5] h = some (.bool true, h))
    (H : Type) (enc : TypeId × Value → H) (W : World) (base : Nat) (args : Array Value) (ds gs : List (DataW H)) (before : List MemPlace)
    (hval : ∀ (j : Nat) t v, f8.params[j]? = some t → args[j]? = some v → Value.okWide prog W .any base t v)
    (hW : DataW.Whole enc prog f8.params.toList Rows.cardPlansSpec.vars false W args.toList ds gs before) (hk : Rows.uptoSmall H (ds ++ gs) = true) :
    Calls prog 8 args W fun e W' => ∃ v, e = .returned v ∧ Rows.cardPlansSpec.post enc prog f8 false true false false W args v W' := by
  have hW' := hW
  obtain ⟨p, q, hA0, hV, rfl, hfz, hnd⟩ := hW
  obtain ⟨rfl, rfl⟩ := trodVars_none hV
  have hA : DataW.TrodAll enc prog W 0 (fun _ => true) true f8.params.toList args.toList ds p := hA0
  rw [params8] at hA hval
  obtain ⟨v0, vs0, d0, ds0, p0, q0, hargs, rfl, rfl, h0, r0⟩ := trodAll_cons hA
  obtain ⟨v1, vs1, d1, ds1, p1, q1, rfl, rfl, rfl, h1, r1⟩ := trodAll_cons r0
  obtain ⟨v2, vs2, d2, ds2, p2, q2, rfl, rfl, rfl, h2, r2⟩ := trodAll_cons r1
  obtain ⟨v3, vs3, d3, ds3, p3, q3, rfl, rfl, rfl, h3, r3⟩ := trodAll_cons r2
  obtain ⟨v4, vs4, d4, ds4, p4, q4, rfl, rfl, rfl, h4, r4⟩ := trodAll_cons r3
  obtain ⟨v5, vs5, d5, ds5, p5, q5, rfl, rfl, rfl, h5, r5⟩ := trodAll_cons r4
  obtain ⟨rfl, rfl, rfl⟩ := trodAll_nil r5
  obtain rfl : args = #[v0, v1, v2, v3, v4, v5] := by cases args; simp_all
  obtain ⟨r, zs, len, cap, w, V1, rfl, a1, a2, a3, a4, a5, a6, a7⟩ := open_paper (hval 0 24 v0 rfl rfl) h0
  obtain ⟨x1, rfl, rfl, -, -⟩ := open_int underlying25 (hval 1 25 v1 rfl rfl) h1
  obtain ⟨x2, rfl, rfl, -, -⟩ := open_int underlying3 (hval 2 3 v2 rfl rfl) h2
  obtain ⟨x3, rfl, rfl, -, -⟩ := open_int underlying3 (hval 3 3 v3 rfl rfl) h3
  obtain ⟨x4, rfl, rfl, -, -⟩ := open_int underlying3 (hval 4 3 v4 rfl rfl) h4
  obtain ⟨x5, rfl, rfl, -, -⟩ := open_int underlying3 (hval 5 3 v5 rfl rfl) h5
  have hb : cap ≤ 1048576 := by
    have := of_decide_eq_true hk
    simp only [List.append_nil, Rows.uptoBulkAll] at this
    omega
  have hR : ∃ R : List Rw, (∀ x ∈ R, x.ok W) ∧ (0 < cap → R[0]? = some r) := by
    rcases a1 with h | h
    · refine ⟨[], by simp, fun hc => ?_⟩
      rw [h] at a2
      have := congrArg List.length a2
      simp at this
      omega
    · exact ⟨[r], by simpa using h, fun _ => rfl⟩
  obtain ⟨R, hR1, hR2⟩ := hR
  obtain ⟨v, hv, hv2⟩ := a7 0 (muR R) (fun hc => muR_loc (hR2 hc))
  have hI := ints_of hR2 a2 a3 a4 (by omega) a5 hv2
  have hc := calls_true (f := 8) (args := [pap w v, .int .i64 x1, .int .i64 x2, .int .i64 x3, .int .i64 x4, .int .i64 x5]) (A := #[.agg #[.int .i64 w, V1], .int .i64 x1, .int .i64 x2, .int .i64 x3, .int .i64 x4, .int .i64 x5]) hR1
    (.cons (VRs.agg (.cons (.int _ _) (.cons hv .nil))) (.cons (.int _ _) (.cons (.int _ _) (.cons (.int _ _) (.cons (.int _ _) (.cons (.int _ _) .nil)))))) (hrun hI (by rw [List.length_take]; omega))
  have hrd : ∀ t ∈ f8.params.toList, prog.readableRec t = true ∧ t < prog.types.size := by
    rw [params8]
    intro t ht
    simp only [List.mem_cons, List.not_mem_nil, or_false] at ht
    rcases ht with rfl | rfl | rfl | rfl | rfl | rfl
    all_goals exact ⟨by kernel_rfl, of_decide_eq_true (by kernel_rfl)⟩
  refine hc.mono fun e W' ⟨he, hbel⟩ => ?_
  subst he
  exact ⟨_, rfl, post_below laid hrd hbel rfl hW' (fun _ _ _ => trodAll_cons_mk (shut_bool underlying4 _) trodAll_mk0) rfl rfl (ok_one (by kernel_rfl) rfl (okWide_bool_mk underlying4 _))⟩

theorem cardPlans_lifted (hrun : ∀ {base : Nat} {h : Heap} {v : AVal} {l : List Int} {w x1 x2 x3 x4 x5 : Int}, Ints h v l → l.length ≤ 1048576 → callL prog raw base (.fn 8 [] []) [pap w v, .int .i64 x1, .int .i64 x2, .int .i64 x3, .int .i64 x4, .int .i64 x5] h = some (.bool true, h))
    (os : Os) (started : os.Started) (H : Type) (enc : TypeId × Value → H) (F : Stop.Interp) :
    ReturnsInHanded {} Go.Proofs.Try.checked os 8 .any ((Rows.OpenSpec.upto Rows.cardPlansSpec).pre6 enc prog f8 Rows.cardPlansUptoRow.domain false) (((Rows.OpenSpec.upto Rows.cardPlansSpec).at F).post enc prog f8 false true false false) := by
  refine returnsInHanded_of_cond (C := Go.Proofs.Try.checked) (s := Rows.OpenSpec.upto Rows.cardPlansSpec) (k := Rows.uptoSmall) rfl own started (by kernel_rfl) func8
    (OpenSpec.witness (enc := enc) (C := Go.Proofs.Try.checked) (s := Rows.OpenSpec.upto Rows.cardPlansSpec) (k := Rows.uptoSmall) rfl false ⟨#[], #[.agg #[.int .i64 0, .slice none 0 0], .int .i64 0, .int .i64 0, .int .i64 0, .int .i64 0, .int .i64 0], []⟩ 8 (by kernel_rfl) (by kernel_rfl) (by kernel_rfl)
      (x := ([.agg [.lit (.int .i64 0), .nil], .lit (.int .i64 0), .lit (.int .i64 0), .lit (.int .i64 0), .lit (.int .i64 0), .lit (.int .i64 0)], [], [])) (by kernel_rfl) rfl (by kernel_rfl)) ?_
  intro W base args ds gs before hval hW _ hk _
  exact cardPlans_contract hrun H enc W base args ds gs before hval hW hk

theorem cardPlans_over (hrun : ∀ {base : Nat} {h : Heap} {v : AVal} {l : List Int} {w x1 x2 x3 x4 x5 : Int}, Ints h v l → l.length ≤ 1048576 → callL prog raw base (.fn 8 [] []) [pap w v, .int .i64 x1, .int .i64 x2, .int .i64 x3, .int .i64 x4, .int .i64 x5] h = some (.bool true, h)) :
    Rows.CardPlansUptoSaid :=
  OpenClaim.holds_of_cond 8 f8 rfl rfl rfl rfl rfl rfl rfl ⟨rfl, rfl, rfl, rfl, rfl⟩ rfl rfl rfl rfl rfl (by kernel_rfl) func8 (by kernel_rfl)
    (of_decide_eq_true (by kernel_rfl)) (by unfold Func.isWrapper; first | (rw [if_pos (by decide +kernel)]; kernel_rfl) | (rw [if_neg (by decide +kernel)]; exact ⟨rfl, rfl⟩))
    (fun os started H enc _ F => cardPlans_lifted hrun os started H enc F)
end Go.AM
