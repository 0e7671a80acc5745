/-
  The statement of FaultSmall, out of what the abstract machine says of it (by wip/tools/bridge4.py).
-/
import Derived.Test.YtlhmeoeamcgcmaaGreatB5
set_option linter.unusedSimpArgs false
set_option linter.unusedVariables false
namespace Go.AM
open Go.Proofs.Tryz Go.RowKit Go.ChangeShapes Go.WideShapes Go.ChangeAt
open Go.Proofs.YtlhmeoeamcgcmaaGreat
set_option maxRecDepth 100000
theorem faultSmall_contract (hrun:∀ {base:Nat} {h:Heap}, callL prog raw base (.fn 8 [] []) [] h=some (.bool true,h))
  (H:Type) (enc:TypeId × Value→H) (W:World) (base:Nat) (args:Array Value) (ds gs:List (DataW H)) (before:List MemPlace)
  (hval:∀ (j:Nat) t v,f8.params[j]?=some t→args[j]?=some v→Value.okWide prog W .any base t v)
  (hW:DataW.Whole enc prog f8.params.toList Rows.faultSmallSpec.vars false W args.toList ds gs before) (hk:Rows.uptoSmall H (ds++gs)=true) :
  Calls prog 8 args W fun e W'=>∃ v,e=.returned v∧Rows.faultSmallSpec.post enc prog f8 false true false false W args v W':=by
 have hW':=hW
 obtain ⟨p,q,hA0,hV,rfl,hfz,hnd⟩:=hW
 obtain ⟨rfl,rfl⟩:=trodVars_none hV
 have hA:DataW.TrodAll enc prog W 0 (fun _=>true) true f8.params.toList args.toList ds p:=hA0
 rw [params8] at hA hval
 obtain rfl:args=#[]:=by cases args;rename_i l;cases l with|nil=>rfl|cons x xs=>(exfalso;cases hA)
 obtain ⟨-,rfl,rfl⟩:=trodAll_nil hA
 have hb:=of_decide_eq_true hk
 simp only [List.append_nil,Rows.uptoBulkAll] at hb
 have hR0:∀ x ∈ ([]:List Rw),x.ok W:=by simp
 have hc:=calls_true (f:=8) (args:=[]) (A:=#[]) (R:=([]:List Rw)) hR0
  .nil (hrun )
 have hrd:∀ t ∈ f8.params.toList,prog.readableRec t=true∧t<prog.types.size:=by
  rw [params8]
  intro t ht
  exact absurd ht (by simp)
 refine hc.mono fun e W' ⟨he,hbel⟩=>?_
 subst he
 exact ⟨_,rfl,post_below laid hrd hbel rfl hW' (fun _ _ _=>trodAll_cons_mk (shut_bool underlying4 _) trodAll_mk0) rfl rfl (ok_one (by kernel_rfl) rfl (okWide_bool_mk underlying4 _))⟩
theorem faultSmall_lifted (hrun:∀ {base:Nat} {h:Heap}, callL prog raw base (.fn 8 [] []) [] h=some (.bool true,h))
  (os:Os) (started:os.Started) (H:Type) (enc:TypeId × Value→H) (F:Stop.Interp) :
  ReturnsInHanded {} Go.Proofs.Tryz.checked os 8 .any ((Rows.OpenSpec.upto Rows.faultSmallSpec).pre6 enc prog f8 Rows.faultSmallUptoRow.domain false) (((Rows.OpenSpec.upto Rows.faultSmallSpec).at F).post enc prog f8 false true false false):=by
 refine returnsInHanded_of_cond (C:=Go.Proofs.Tryz.checked) (s:=Rows.OpenSpec.upto Rows.faultSmallSpec) (k:=Rows.uptoSmall) rfl own started (by kernel_rfl) func8
  (OpenSpec.witness (enc:=enc) (C:=Go.Proofs.Tryz.checked) (s:=Rows.OpenSpec.upto Rows.faultSmallSpec) (k:=Rows.uptoSmall) rfl false ⟨#[],#[],[]⟩ 8 (by kernel_rfl) (by kernel_rfl) (by kernel_rfl)
   (x:=([],[],[])) (by kernel_rfl) rfl (by kernel_rfl)) ?_
 intro W base args ds gs before hval hW _ hk _
 exact faultSmall_contract hrun H enc W base args ds gs before hval hW hk
theorem faultSmall_over (hrun:∀ {base:Nat} {h:Heap}, callL prog raw base (.fn 8 [] []) [] h=some (.bool true,h)) :
  Rows.FaultSmallUptoSaid :=
 OpenClaim.holds_of_cond 8 f8 rfl rfl rfl rfl rfl rfl rfl ⟨rfl,rfl,rfl,rfl,rfl⟩ rfl rfl rfl rfl rfl (by kernel_rfl) func8 (by kernel_rfl)
  (of_decide_eq_true (by kernel_rfl)) (by unfold Func.isWrapper;first|(rw [if_pos (by decide +kernel)];kernel_rfl)|(rw [if_neg (by decide +kernel)];exact ⟨rfl,rfl⟩))
  (fun os started H enc _ F=>faultSmall_lifted hrun os started H enc F)
end Go.AM
