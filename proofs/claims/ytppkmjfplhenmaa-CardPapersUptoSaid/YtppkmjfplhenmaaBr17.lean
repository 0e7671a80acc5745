/-
  The statement of CardPapers, out of what the abstract machine says of it (by wip/tools/bridge2.py).
-/
import Derived.Test.YtppkmjfplhenmaaBr5
set_option linter.unusedSimpArgs false
set_option linter.unusedVariables false
namespace Go.AM
open Go.Proofs.Try Go.RowKit Go.ChangeShapes Go.WideShapes Go.ChangeAt
open Go.Proofs.Ytppkmjfplhenmaa
set_option maxRecDepth 100000

theorem cardPapers_contract (hrun : ∀ {base : Nat} {h : Heap} {v0 v1 : AVal} {l0 l1 : List Int} {w0 w1 k1 s1 x2 x3 : Int}, Ints h v0 l0 → Ints h v1 l1 → l0.length ≤ 1048576 → l1.length ≤ 1048576 →  callL prog raw base (.fn 17 [] []) [pap w0 v0, chn w1 v1 k1 s1, .int .i64 x2, .int .i64 x3] h = some (.bool true, h))
    (H : Type) (enc : TypeId × Value → H) (W : World) (base : Nat) (args : Array Value) (ds gs : List (DataW H)) (before : List MemPlace)
    (hval : ∀ (j : Nat) t v, f17.params[j]? = some t → args[j]? = some v → Value.okWide prog W .any base t v)
    (hW : DataW.Whole enc prog f17.params.toList Rows.cardPapersSpec.vars false W args.toList ds gs before) (hk : Rows.uptoSmall H (ds ++ gs) = true) :
    Calls prog 17 args W fun e W' => ∃ v, e = .returned v ∧ Rows.cardPapersSpec.post enc prog f17 false true false false W args v W' := by
  have hW' := hW
  obtain ⟨p, q, hA0, hV, rfl, hfz, hnd⟩ := hW
  obtain ⟨rfl, rfl⟩ := trodVars_none hV
  have hA : DataW.TrodAll enc prog W 0 (fun _ => true) true f17.params.toList args.toList ds p := hA0
  rw [params17] at hA hval
  obtain ⟨v0, vs0, d0, ds0, p0, q0, hargs, rfl, rfl, h0, r0⟩ := trodAll_cons hA
  obtain ⟨v1, vs1, d1, ds1, p1, q1, rfl, rfl, rfl, h1, r1⟩ := trodAll_cons r0
  obtain ⟨v2, vs2, d2, ds2, p2, q2, rfl, rfl, rfl, h2, r2⟩ := trodAll_cons r1
  obtain ⟨v3, vs3, d3, ds3, p3, q3, rfl, rfl, rfl, h3, r3⟩ := trodAll_cons r2
  obtain ⟨rfl, rfl, rfl⟩ := trodAll_nil r3
  obtain rfl : args = #[v0, v1, v2, v3] := by cases args; simp_all
  obtain ⟨rw0, zs0, len0, cap0, w0, V0, rfl, sl0, bk0⟩ := openPap (hval 0 24 v0 rfl rfl) h0
  obtain ⟨rw1, zs1, len1, cap1, w1, k1, s1, V1, rfl, sl1, bk1⟩ := openChn (hval 1 34 v1 rfl rfl) h1
  obtain ⟨x2, rfl, rfl, -, -⟩ := open_int underlying3 (hval 2 3 v2 rfl rfl) h2
  obtain ⟨x3, rfl, rfl, -, -⟩ := open_int underlying3 (hval 3 3 v3 rfl rfl) h3
  have hb := of_decide_eq_true hk
  simp only [List.append_nil, Rows.uptoBulkAll] at hb
  have hR0 : ∀ x ∈ ([] : List Rw), x.ok W := by simp
  obtain ⟨R0, hR100, kp0, at0⟩ := sl0.add hR0
  obtain ⟨R1, hR101, kp1, at1⟩ := sl1.add hR100
  obtain ⟨v0, hv0, hI0⟩ := sl0.ints (R := R1) (fun hc => kp1 _ _ (at0 hc)) (by omega)
  obtain ⟨v1, hv1, hI1⟩ := sl1.ints (R := R1) (fun hc => at1 hc) (by omega)
  have hl0 := sl0.le
  have hl1 := sl1.le
  have hc := calls_true (f := 17) (args := [pap w0 v0, chn w1 v1 k1 s1, .int .i64 x2, .int .i64 x3]) (A := #[.agg #[.int .i64 w0, V0], .agg #[.int .i64 w1, V1, .int .i64 k1, .int .i64 s1], .int .i64 x2, .int .i64 x3]) (R := R1) hR101
    (.cons (VRs.agg (.cons (.int _ _) (.cons hv0 .nil))) (.cons (VRs.agg (.cons (.int _ _) (.cons hv1 (.cons (.int _ _) (.cons (.int _ _) .nil))))) (.cons (.int _ _) (.cons (.int _ _) .nil)))) (hrun hI0 hI1 (by rw [List.length_take]; omega) (by rw [List.length_take]; omega))
  have hrd : ∀ t ∈ f17.params.toList, prog.readableRec t = true ∧ t < prog.types.size := by
    rw [params17]
    intro t ht
    simp only [List.mem_cons, List.not_mem_nil, or_false] at ht
    rcases ht with rfl | rfl | rfl | rfl
    all_goals exact ⟨by kernel_rfl, of_decide_eq_true (by kernel_rfl)⟩
  refine hc.mono fun e W' ⟨he, hbel⟩ => ?_
  subst he
  exact ⟨_, rfl, post_below laid hrd hbel rfl hW' (fun _ _ _ => trodAll_cons_mk (shut_bool underlying4 _) trodAll_mk0) rfl rfl (ok_one (by kernel_rfl) rfl (okWide_bool_mk underlying4 _))⟩

theorem cardPapers_lifted (hrun : ∀ {base : Nat} {h : Heap} {v0 v1 : AVal} {l0 l1 : List Int} {w0 w1 k1 s1 x2 x3 : Int}, Ints h v0 l0 → Ints h v1 l1 → l0.length ≤ 1048576 → l1.length ≤ 1048576 →  callL prog raw base (.fn 17 [] []) [pap w0 v0, chn w1 v1 k1 s1, .int .i64 x2, .int .i64 x3] h = some (.bool true, h))
    (os : Os) (started : os.Started) (H : Type) (enc : TypeId × Value → H) (F : Stop.Interp) :
    ReturnsInHanded {} Go.Proofs.Try.checked os 17 .any ((Rows.OpenSpec.upto Rows.cardPapersSpec).pre6 enc prog f17 Rows.cardPapersUptoRow.domain false) (((Rows.OpenSpec.upto Rows.cardPapersSpec).at F).post enc prog f17 false true false false) := by
  refine returnsInHanded_of_cond (C := Go.Proofs.Try.checked) (s := Rows.OpenSpec.upto Rows.cardPapersSpec) (k := Rows.uptoSmall) rfl own started (by kernel_rfl) func17
    (OpenSpec.witness (enc := enc) (C := Go.Proofs.Try.checked) (s := Rows.OpenSpec.upto Rows.cardPapersSpec) (k := Rows.uptoSmall) rfl false ⟨#[], #[.agg #[.int .i64 0, .slice none 0 0], .agg #[.int .i64 0, .slice none 0 0, .int .i64 0, .int .i64 0], .int .i64 0, .int .i64 0], []⟩ 8 (by kernel_rfl) (by kernel_rfl) (by kernel_rfl)
      (x := ([.agg [.lit (.int .i64 0), .nil], .agg [.lit (.int .i64 0), .nil, .lit (.int .i64 0), .lit (.int .i64 0)], .lit (.int .i64 0), .lit (.int .i64 0)], [], [])) (by kernel_rfl) rfl (by kernel_rfl)) ?_
  intro W base args ds gs before hval hW _ hk _
  exact cardPapers_contract hrun H enc W base args ds gs before hval hW hk

theorem cardPapers_over (hrun : ∀ {base : Nat} {h : Heap} {v0 v1 : AVal} {l0 l1 : List Int} {w0 w1 k1 s1 x2 x3 : Int}, Ints h v0 l0 → Ints h v1 l1 → l0.length ≤ 1048576 → l1.length ≤ 1048576 →  callL prog raw base (.fn 17 [] []) [pap w0 v0, chn w1 v1 k1 s1, .int .i64 x2, .int .i64 x3] h = some (.bool true, h)) :
    Rows.CardPapersUptoSaid :=
  OpenClaim.holds_of_cond 17 f17 rfl rfl rfl rfl rfl rfl rfl ⟨rfl, rfl, rfl, rfl, rfl⟩ rfl rfl rfl rfl rfl (by kernel_rfl) func17 (by kernel_rfl)
    (of_decide_eq_true (by kernel_rfl)) (by unfold Func.isWrapper; first | (rw [if_pos (by decide +kernel)]; kernel_rfl) | (rw [if_neg (by decide +kernel)]; exact ⟨rfl, rfl⟩))
    (fun os started H enc _ F => cardPapers_lifted hrun os started H enc F)
end Go.AM
