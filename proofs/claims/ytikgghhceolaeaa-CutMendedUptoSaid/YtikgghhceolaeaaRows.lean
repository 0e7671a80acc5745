/-
  No cell of these rows narrows 'for every input' (looked for: loops, veiled, ifaces, maps, wideKeys, modest, calm, conditions, laid).
  DERIVED. THE GIVEN ROWS OF THIS SEAT. 12 by the template 'for every input the law returns true; each argument reads behind the call as it read before'; 0 by the template 'total and deterministic' (their statements: YtikgghhceolaeaaTotals.lean).
  GIVEN WITH THE SEED: the statements are not yours to turn. If you find one false, say at which input.
  Laid BY PROGRAM, IN A SANDBOX (cutbox-rows.mjs): the forced cells as the released guide's own fill.sh prints them over the translation f74ae928fd82b717… (all of the seat's roots in one cut). By AI agents, Wed Nov 11 2026. No macro, syntax, notation, axiom, sorry.
-/
import Derived.Test.YtikgghhceolaeaaChecked
import GoSem.Claim
import GoSem.ClaimJoined
import GoSem.ClaimMapViews
import Derived.JoinedTies
import Derived.KernelRfl
namespace Go.Proofs.Ytikgghhceolaeaa
/- THE CELL 'sum', in the pinned program and in every row, IS THE sha256 OF THE DUMP (.gsa) THAT YtikgghhceolaeaaProg.lean LOADS. Nothing in Lean hashes anything: it is a label: what it is worth is what the hold of that sum in a sandbox is worth. -/
noncomputable def Try.pinned : Pinned := { name := "ytikgghhceolaeaa", sum := "f74ae928fd82b717b681cdf56fd6f267836c4755055da0ca71c315c1e09c351c", checked := Try.checked }
namespace Rows
def none {H : Type} : Left H := { results := [], args := [] }

/-- 'petershamlaw08.CutFaults': WHATEVER THE INPUT: true; the input reads as it did. -/
def cutFaultsSpec : ChangeSpec := { name := "cutFaults", fn := fun _ => fun
  | [d1, d2] => { results := [.lit (.bool true)], args := [d1, d2] }
  | _ => none }
def cutFaultsRow : OpenClaim := { program := "ytikgghhceolaeaa", sum := "f74ae928fd82b717b681cdf56fd6f267836c4755055da0ca71c315c1e09c351c", func := "petersham/petershamlaw08.CutFaults", spec := "cutFaults", unfollowed := true, recurses := true, apart := false }
def CutFaultsSaid : Prop := cutFaultsRow.holds Try.pinned (OpenSpec.ofChange cutFaultsSpec)

/-- ITS FALSE NEIGHBOUR: 'it returns false'. Refute it at one input. -/
def cutFaultsWrong : ChangeSpec := { name := "cutFaults", fn := fun _ => fun
  | [d1, d2] => { results := [.lit (.bool false)], args := [d1, d2] }
  | _ => none }
def CutFaultsWrongFalsely : Prop := cutFaultsRow.holds Try.pinned (OpenSpec.ofChange cutFaultsWrong)

/-- 'petershamlaw08.CutMore': WHATEVER THE INPUT: true; the input reads as it did. -/
def cutMoreSpec : ChangeSpec := { name := "cutMore", fn := fun _ => fun
  | [d1, d2, d3] => { results := [.lit (.bool true)], args := [d1, d2, d3] }
  | _ => none }
def cutMoreRow : OpenClaim := { program := "ytikgghhceolaeaa", sum := "f74ae928fd82b717b681cdf56fd6f267836c4755055da0ca71c315c1e09c351c", func := "petersham/petershamlaw08.CutMore", spec := "cutMore", unfollowed := true, recurses := true, apart := false }
def CutMoreSaid : Prop := cutMoreRow.holds Try.pinned (OpenSpec.ofChange cutMoreSpec)

/-- ITS FALSE NEIGHBOUR: 'it returns false'. Refute it at one input. -/
def cutMoreWrong : ChangeSpec := { name := "cutMore", fn := fun _ => fun
  | [d1, d2, d3] => { results := [.lit (.bool false)], args := [d1, d2, d3] }
  | _ => none }
def CutMoreWrongFalsely : Prop := cutMoreRow.holds Try.pinned (OpenSpec.ofChange cutMoreWrong)

/-- 'petershamlaw08.CutPlans': WHATEVER THE INPUT: true; the input reads as it did. -/
def cutPlansSpec : ChangeSpec := { name := "cutPlans", fn := fun _ => fun
  | [d1, d2] => { results := [.lit (.bool true)], args := [d1, d2] }
  | _ => none }
def cutPlansRow : OpenClaim := { program := "ytikgghhceolaeaa", sum := "f74ae928fd82b717b681cdf56fd6f267836c4755055da0ca71c315c1e09c351c", func := "petersham/petershamlaw08.CutPlans", spec := "cutPlans", unfollowed := true, recurses := true, apart := false }
def CutPlansSaid : Prop := cutPlansRow.holds Try.pinned (OpenSpec.ofChange cutPlansSpec)

/-- ITS FALSE NEIGHBOUR: 'it returns false'. Refute it at one input. -/
def cutPlansWrong : ChangeSpec := { name := "cutPlans", fn := fun _ => fun
  | [d1, d2] => { results := [.lit (.bool false)], args := [d1, d2] }
  | _ => none }
def CutPlansWrongFalsely : Prop := cutPlansRow.holds Try.pinned (OpenSpec.ofChange cutPlansWrong)

/-- 'petershamlaw08.CutMost': WHATEVER THE INPUT: true; the input reads as it did. -/
def cutMostSpec : ChangeSpec := { name := "cutMost", fn := fun _ => fun
  | [d] => { results := [.lit (.bool true)], args := [d] }
  | _ => none }
def cutMostRow : OpenClaim := { program := "ytikgghhceolaeaa", sum := "f74ae928fd82b717b681cdf56fd6f267836c4755055da0ca71c315c1e09c351c", func := "petersham/petershamlaw08.CutMost", spec := "cutMost", unfollowed := true, recurses := true, apart := false }
def CutMostSaid : Prop := cutMostRow.holds Try.pinned (OpenSpec.ofChange cutMostSpec)

/-- ITS FALSE NEIGHBOUR: 'it returns false'. Refute it at one input. -/
def cutMostWrong : ChangeSpec := { name := "cutMost", fn := fun _ => fun
  | [d] => { results := [.lit (.bool false)], args := [d] }
  | _ => none }
def CutMostWrongFalsely : Prop := cutMostRow.holds Try.pinned (OpenSpec.ofChange cutMostWrong)

/-- 'petershamlaw08.CutRibbons': WHATEVER THE INPUT: true; the input reads as it did. -/
def cutRibbonsSpec : ChangeSpec := { name := "cutRibbons", fn := fun _ => fun
  | [d1, d2, d3] => { results := [.lit (.bool true)], args := [d1, d2, d3] }
  | _ => none }
def cutRibbonsRow : OpenClaim := { program := "ytikgghhceolaeaa", sum := "f74ae928fd82b717b681cdf56fd6f267836c4755055da0ca71c315c1e09c351c", func := "petersham/petershamlaw08.CutRibbons", spec := "cutRibbons", unfollowed := true, recurses := true, apart := false }
def CutRibbonsSaid : Prop := cutRibbonsRow.holds Try.pinned (OpenSpec.ofChange cutRibbonsSpec)

/-- ITS FALSE NEIGHBOUR: 'it returns false'. Refute it at one input. -/
def cutRibbonsWrong : ChangeSpec := { name := "cutRibbons", fn := fun _ => fun
  | [d1, d2, d3] => { results := [.lit (.bool false)], args := [d1, d2, d3] }
  | _ => none }
def CutRibbonsWrongFalsely : Prop := cutRibbonsRow.holds Try.pinned (OpenSpec.ofChange cutRibbonsWrong)

/-- 'petershamlaw08.CutRest': WHATEVER THE INPUT: true; the input reads as it did. -/
def cutRestSpec : ChangeSpec := { name := "cutRest", fn := fun _ => fun
  | [d1, d2] => { results := [.lit (.bool true)], args := [d1, d2] }
  | _ => none }
def cutRestRow : OpenClaim := { program := "ytikgghhceolaeaa", sum := "f74ae928fd82b717b681cdf56fd6f267836c4755055da0ca71c315c1e09c351c", func := "petersham/petershamlaw08.CutRest", spec := "cutRest", unfollowed := true, recurses := true, apart := false }
def CutRestSaid : Prop := cutRestRow.holds Try.pinned (OpenSpec.ofChange cutRestSpec)

/-- ITS FALSE NEIGHBOUR: 'it returns false'. Refute it at one input. -/
def cutRestWrong : ChangeSpec := { name := "cutRest", fn := fun _ => fun
  | [d1, d2] => { results := [.lit (.bool false)], args := [d1, d2] }
  | _ => none }
def CutRestWrongFalsely : Prop := cutRestRow.holds Try.pinned (OpenSpec.ofChange cutRestWrong)

/-- 'petershamlaw08.CutWants': WHATEVER THE INPUT: true; the input reads as it did. -/
def cutWantsSpec : ChangeSpec := { name := "cutWants", fn := fun _ => fun
  | [d1, d2] => { results := [.lit (.bool true)], args := [d1, d2] }
  | _ => none }
def cutWantsRow : OpenClaim := { program := "ytikgghhceolaeaa", sum := "f74ae928fd82b717b681cdf56fd6f267836c4755055da0ca71c315c1e09c351c", func := "petersham/petershamlaw08.CutWants", spec := "cutWants", unfollowed := true, recurses := true, apart := false }
def CutWantsSaid : Prop := cutWantsRow.holds Try.pinned (OpenSpec.ofChange cutWantsSpec)

/-- ITS FALSE NEIGHBOUR: 'it returns false'. Refute it at one input. -/
def cutWantsWrong : ChangeSpec := { name := "cutWants", fn := fun _ => fun
  | [d1, d2] => { results := [.lit (.bool false)], args := [d1, d2] }
  | _ => none }
def CutWantsWrongFalsely : Prop := cutWantsRow.holds Try.pinned (OpenSpec.ofChange cutWantsWrong)

/-- 'petershamlaw08.CutUsed': WHATEVER THE INPUT: true; the input reads as it did. -/
def cutUsedSpec : ChangeSpec := { name := "cutUsed", fn := fun _ => fun
  | [d1, d2] => { results := [.lit (.bool true)], args := [d1, d2] }
  | _ => none }
def cutUsedRow : OpenClaim := { program := "ytikgghhceolaeaa", sum := "f74ae928fd82b717b681cdf56fd6f267836c4755055da0ca71c315c1e09c351c", func := "petersham/petershamlaw08.CutUsed", spec := "cutUsed", unfollowed := true, recurses := true, apart := false }
def CutUsedSaid : Prop := cutUsedRow.holds Try.pinned (OpenSpec.ofChange cutUsedSpec)

/-- ITS FALSE NEIGHBOUR: 'it returns false'. Refute it at one input. -/
def cutUsedWrong : ChangeSpec := { name := "cutUsed", fn := fun _ => fun
  | [d1, d2] => { results := [.lit (.bool false)], args := [d1, d2] }
  | _ => none }
def CutUsedWrongFalsely : Prop := cutUsedRow.holds Try.pinned (OpenSpec.ofChange cutUsedWrong)

/-- 'petershamlaw08.CutValues': WHATEVER THE INPUT: true; the input reads as it did. -/
def cutValuesSpec : ChangeSpec := { name := "cutValues", fn := fun _ => fun
  | [d1, d2] => { results := [.lit (.bool true)], args := [d1, d2] }
  | _ => none }
def cutValuesRow : OpenClaim := { program := "ytikgghhceolaeaa", sum := "f74ae928fd82b717b681cdf56fd6f267836c4755055da0ca71c315c1e09c351c", func := "petersham/petershamlaw08.CutValues", spec := "cutValues", unfollowed := true, recurses := true, apart := false }
def CutValuesSaid : Prop := cutValuesRow.holds Try.pinned (OpenSpec.ofChange cutValuesSpec)

/-- ITS FALSE NEIGHBOUR: 'it returns false'. Refute it at one input. -/
def cutValuesWrong : ChangeSpec := { name := "cutValues", fn := fun _ => fun
  | [d1, d2] => { results := [.lit (.bool false)], args := [d1, d2] }
  | _ => none }
def CutValuesWrongFalsely : Prop := cutValuesRow.holds Try.pinned (OpenSpec.ofChange cutValuesWrong)

/-- 'petershamlaw08.CutHeld': WHATEVER THE INPUT: true; the input reads as it did. -/
def cutHeldSpec : ChangeSpec := { name := "cutHeld", fn := fun _ => fun
  | [d1, d2] => { results := [.lit (.bool true)], args := [d1, d2] }
  | _ => none }
def cutHeldRow : OpenClaim := { program := "ytikgghhceolaeaa", sum := "f74ae928fd82b717b681cdf56fd6f267836c4755055da0ca71c315c1e09c351c", func := "petersham/petershamlaw08.CutHeld", spec := "cutHeld", unfollowed := true, recurses := true, apart := false }
def CutHeldSaid : Prop := cutHeldRow.holds Try.pinned (OpenSpec.ofChange cutHeldSpec)

/-- ITS FALSE NEIGHBOUR: 'it returns false'. Refute it at one input. -/
def cutHeldWrong : ChangeSpec := { name := "cutHeld", fn := fun _ => fun
  | [d1, d2] => { results := [.lit (.bool false)], args := [d1, d2] }
  | _ => none }
def CutHeldWrongFalsely : Prop := cutHeldRow.holds Try.pinned (OpenSpec.ofChange cutHeldWrong)

/-- 'petershamlaw08.CutEarned': WHATEVER THE INPUT: true; the input reads as it did. -/
def cutEarnedSpec : ChangeSpec := { name := "cutEarned", fn := fun _ => fun
  | [d1, d2] => { results := [.lit (.bool true)], args := [d1, d2] }
  | _ => none }
def cutEarnedRow : OpenClaim := { program := "ytikgghhceolaeaa", sum := "f74ae928fd82b717b681cdf56fd6f267836c4755055da0ca71c315c1e09c351c", func := "petersham/petershamlaw08.CutEarned", spec := "cutEarned", unfollowed := true, recurses := true, apart := false }
def CutEarnedSaid : Prop := cutEarnedRow.holds Try.pinned (OpenSpec.ofChange cutEarnedSpec)

/-- ITS FALSE NEIGHBOUR: 'it returns false'. Refute it at one input. -/
def cutEarnedWrong : ChangeSpec := { name := "cutEarned", fn := fun _ => fun
  | [d1, d2] => { results := [.lit (.bool false)], args := [d1, d2] }
  | _ => none }
def CutEarnedWrongFalsely : Prop := cutEarnedRow.holds Try.pinned (OpenSpec.ofChange cutEarnedWrong)

/-- 'petershamlaw08.CutMended': WHATEVER THE INPUT: true; the input reads as it did. -/
def cutMendedSpec : ChangeSpec := { name := "cutMended", fn := fun _ => fun
  | [d1, d2] => { results := [.lit (.bool true)], args := [d1, d2] }
  | _ => none }
def cutMendedRow : OpenClaim := { program := "ytikgghhceolaeaa", sum := "f74ae928fd82b717b681cdf56fd6f267836c4755055da0ca71c315c1e09c351c", func := "petersham/petershamlaw08.CutMended", spec := "cutMended", inPlace := ["slices.overlaps[int]"], unfollowed := true, recurses := true, apart := false }
def CutMendedSaid : Prop := cutMendedRow.holds Try.pinned (OpenSpec.ofChange cutMendedSpec)

/-- ITS FALSE NEIGHBOUR: 'it returns false'. Refute it at one input. -/
def cutMendedWrong : ChangeSpec := { name := "cutMended", fn := fun _ => fun
  | [d1, d2] => { results := [.lit (.bool false)], args := [d1, d2] }
  | _ => none }
def CutMendedWrongFalsely : Prop := cutMendedRow.holds Try.pinned (OpenSpec.ofChange cutMendedWrong)

/- THE SECOND FORM. 'bulk': how many values and letters a reading holds, each counted each time it is reached (what is shared counts as often as it is met; a slice's spare places count too). A statement '..UptoSaid' is the law's where the arguments, and the package variables that the reading takes, are together of bulk at most 1048576: NARROWER than '..Said'. Prove '..Said' where nothing that the law and all that it calls make is longer than what came in: it says more and counts as full. Else prove '..UptoSaid'. A law counts once. -/
mutual
def uptoBulk {H : Type} : DataW H → Nat
  | .lit (.string bytes) => bytes.length + 1
  | .lit _ => 1
  | .nil => 1
  | .ptr d => uptoBulk d + 1
  | .slice elems spare => uptoBulkAll elems + uptoBulkAll spare + 1
  | .agg parts => uptoBulkAll parts + 1
  | .iface _ d => uptoBulk d + 1
  | .map entries => uptoBulkEntries entries + 1
  | .held _ => 1
def uptoBulkAll {H : Type} : List (DataW H) → Nat
  | [] => 0
  | d :: r => uptoBulk d + uptoBulkAll r
def uptoBulkEntries {H : Type} : List (Lit × DataW H) → Nat
  | [] => 0
  | x :: r => uptoBulkEntry x + uptoBulkEntries r
def uptoBulkEntry {H : Type} : Lit × DataW H → Nat
  | (.string bytes, d) => bytes.length + uptoBulk d + 1
  | (_, d) => uptoBulk d + 1
 end
def uptoSmall : (H : Type) → List (DataW H) → Bool := fun _ ds => decide (uptoBulkAll ds ≤ 1048576)
def OpenSpec.upto (s : _root_.Go.ChangeSpec) : _root_.Go.OpenSpec := { _root_.Go.OpenSpec.ofChange s with cond := some uptoSmall }

/-- 'petershamlaw08.CutFaults', WHERE WHAT IT READS IS OF BULK AT MOST 1048576: true; the input reads as it did. -/
def cutFaultsUptoRow : OpenClaim := { program := "ytikgghhceolaeaa", sum := "f74ae928fd82b717b681cdf56fd6f267836c4755055da0ca71c315c1e09c351c", func := "petersham/petershamlaw08.CutFaults", spec := "cutFaults", unfollowed := true, recurses := true, apart := false, narrowed := true }
def CutFaultsUptoSaid : Prop := cutFaultsUptoRow.holds Try.pinned (OpenSpec.upto cutFaultsSpec)

/-- 'petershamlaw08.CutMore', WHERE WHAT IT READS IS OF BULK AT MOST 1048576: true; the input reads as it did. -/
def cutMoreUptoRow : OpenClaim := { program := "ytikgghhceolaeaa", sum := "f74ae928fd82b717b681cdf56fd6f267836c4755055da0ca71c315c1e09c351c", func := "petersham/petershamlaw08.CutMore", spec := "cutMore", unfollowed := true, recurses := true, apart := false, narrowed := true }
def CutMoreUptoSaid : Prop := cutMoreUptoRow.holds Try.pinned (OpenSpec.upto cutMoreSpec)

/-- 'petershamlaw08.CutPlans', WHERE WHAT IT READS IS OF BULK AT MOST 1048576: true; the input reads as it did. -/
def cutPlansUptoRow : OpenClaim := { program := "ytikgghhceolaeaa", sum := "f74ae928fd82b717b681cdf56fd6f267836c4755055da0ca71c315c1e09c351c", func := "petersham/petershamlaw08.CutPlans", spec := "cutPlans", unfollowed := true, recurses := true, apart := false, narrowed := true }
def CutPlansUptoSaid : Prop := cutPlansUptoRow.holds Try.pinned (OpenSpec.upto cutPlansSpec)

/-- 'petershamlaw08.CutMost', WHERE WHAT IT READS IS OF BULK AT MOST 1048576: true; the input reads as it did. -/
def cutMostUptoRow : OpenClaim := { program := "ytikgghhceolaeaa", sum := "f74ae928fd82b717b681cdf56fd6f267836c4755055da0ca71c315c1e09c351c", func := "petersham/petershamlaw08.CutMost", spec := "cutMost", unfollowed := true, recurses := true, apart := false, narrowed := true }
def CutMostUptoSaid : Prop := cutMostUptoRow.holds Try.pinned (OpenSpec.upto cutMostSpec)

/-- 'petershamlaw08.CutRibbons', WHERE WHAT IT READS IS OF BULK AT MOST 1048576: true; the input reads as it did. -/
def cutRibbonsUptoRow : OpenClaim := { program := "ytikgghhceolaeaa", sum := "f74ae928fd82b717b681cdf56fd6f267836c4755055da0ca71c315c1e09c351c", func := "petersham/petershamlaw08.CutRibbons", spec := "cutRibbons", unfollowed := true, recurses := true, apart := false, narrowed := true }
def CutRibbonsUptoSaid : Prop := cutRibbonsUptoRow.holds Try.pinned (OpenSpec.upto cutRibbonsSpec)

/-- 'petershamlaw08.CutRest', WHERE WHAT IT READS IS OF BULK AT MOST 1048576: true; the input reads as it did. -/
def cutRestUptoRow : OpenClaim := { program := "ytikgghhceolaeaa", sum := "f74ae928fd82b717b681cdf56fd6f267836c4755055da0ca71c315c1e09c351c", func := "petersham/petershamlaw08.CutRest", spec := "cutRest", unfollowed := true, recurses := true, apart := false, narrowed := true }
def CutRestUptoSaid : Prop := cutRestUptoRow.holds Try.pinned (OpenSpec.upto cutRestSpec)

/-- 'petershamlaw08.CutWants', WHERE WHAT IT READS IS OF BULK AT MOST 1048576: true; the input reads as it did. -/
def cutWantsUptoRow : OpenClaim := { program := "ytikgghhceolaeaa", sum := "f74ae928fd82b717b681cdf56fd6f267836c4755055da0ca71c315c1e09c351c", func := "petersham/petershamlaw08.CutWants", spec := "cutWants", unfollowed := true, recurses := true, apart := false, narrowed := true }
def CutWantsUptoSaid : Prop := cutWantsUptoRow.holds Try.pinned (OpenSpec.upto cutWantsSpec)

/-- 'petershamlaw08.CutUsed', WHERE WHAT IT READS IS OF BULK AT MOST 1048576: true; the input reads as it did. -/
def cutUsedUptoRow : OpenClaim := { program := "ytikgghhceolaeaa", sum := "f74ae928fd82b717b681cdf56fd6f267836c4755055da0ca71c315c1e09c351c", func := "petersham/petershamlaw08.CutUsed", spec := "cutUsed", unfollowed := true, recurses := true, apart := false, narrowed := true }
def CutUsedUptoSaid : Prop := cutUsedUptoRow.holds Try.pinned (OpenSpec.upto cutUsedSpec)

/-- 'petershamlaw08.CutValues', WHERE WHAT IT READS IS OF BULK AT MOST 1048576: true; the input reads as it did. -/
def cutValuesUptoRow : OpenClaim := { program := "ytikgghhceolaeaa", sum := "f74ae928fd82b717b681cdf56fd6f267836c4755055da0ca71c315c1e09c351c", func := "petersham/petershamlaw08.CutValues", spec := "cutValues", unfollowed := true, recurses := true, apart := false, narrowed := true }
def CutValuesUptoSaid : Prop := cutValuesUptoRow.holds Try.pinned (OpenSpec.upto cutValuesSpec)

/-- 'petershamlaw08.CutHeld', WHERE WHAT IT READS IS OF BULK AT MOST 1048576: true; the input reads as it did. -/
def cutHeldUptoRow : OpenClaim := { program := "ytikgghhceolaeaa", sum := "f74ae928fd82b717b681cdf56fd6f267836c4755055da0ca71c315c1e09c351c", func := "petersham/petershamlaw08.CutHeld", spec := "cutHeld", unfollowed := true, recurses := true, apart := false, narrowed := true }
def CutHeldUptoSaid : Prop := cutHeldUptoRow.holds Try.pinned (OpenSpec.upto cutHeldSpec)

/-- 'petershamlaw08.CutEarned', WHERE WHAT IT READS IS OF BULK AT MOST 1048576: true; the input reads as it did. -/
def cutEarnedUptoRow : OpenClaim := { program := "ytikgghhceolaeaa", sum := "f74ae928fd82b717b681cdf56fd6f267836c4755055da0ca71c315c1e09c351c", func := "petersham/petershamlaw08.CutEarned", spec := "cutEarned", unfollowed := true, recurses := true, apart := false, narrowed := true }
def CutEarnedUptoSaid : Prop := cutEarnedUptoRow.holds Try.pinned (OpenSpec.upto cutEarnedSpec)

/-- 'petershamlaw08.CutMended', WHERE WHAT IT READS IS OF BULK AT MOST 1048576: true; the input reads as it did. -/
def cutMendedUptoRow : OpenClaim := { program := "ytikgghhceolaeaa", sum := "f74ae928fd82b717b681cdf56fd6f267836c4755055da0ca71c315c1e09c351c", func := "petersham/petershamlaw08.CutMended", spec := "cutMended", inPlace := ["slices.overlaps[int]"], unfollowed := true, recurses := true, apart := false, narrowed := true }
def CutMendedUptoSaid : Prop := cutMendedUptoRow.holds Try.pinned (OpenSpec.upto cutMendedSpec)

end Rows
end Go.Proofs.Ytikgghhceolaeaa
