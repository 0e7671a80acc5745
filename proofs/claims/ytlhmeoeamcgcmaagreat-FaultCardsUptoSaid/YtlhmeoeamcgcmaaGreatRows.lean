/-
  No cell of these rows narrows 'for every input' (looked for: loops, veiled, ifaces, maps, wideKeys, modest, calm, conditions, laid).
  DERIVED. THE GIVEN ROWS OF THIS SEAT. 8 by the template 'for every input the law returns true; each argument reads behind the call as it read before'; 0 by the template 'total and deterministic' (their statements: YtlhmeoeamcgcmaaGreatTotals.lean).
  GIVEN WITH THE SEED: the statements are not yours to turn. If you find one false, say at which input.
  Laid BY PROGRAM, IN A SANDBOX (cutbox-rows.mjs): the forced cells as the released guide's own fill.sh prints them over the translation 871d4c3e768ca61e… (all of the seat's roots in one cut). By AI agents, Wed Nov 11 2026. No macro, syntax, notation, axiom, sorry.
-/
import Derived.Test.YtlhmeoeamcgcmaaGreatChecked
import GoSem.Claim
import GoSem.ClaimJoined
import GoSem.ClaimMapViews
import Derived.JoinedTies
import Derived.KernelRfl
namespace Go.Proofs.YtlhmeoeamcgcmaaGreat
/- THE CELL 'sum', in the pinned program and in every row, IS THE sha256 OF THE DUMP (.gsa) THAT YtlhmeoeamcgcmaaGreatProg.lean LOADS. Nothing in Lean hashes anything: it is a label: what it is worth is what the hold of that sum in a sandbox is worth. -/
noncomputable def Tryz.pinned : Pinned := { name := "ytlhmeoeamcgcmaagreat", sum := "871d4c3e768ca61e8a01ebb6db88a23b0daa7a01627e175a50aa3e40d719085d", checked := Tryz.checked }
namespace Rows
def none {H : Type} : Left H := { results := [], args := [] }

/-- 'petershamlaw04.FaultLasts': WHATEVER THE INPUT: true; the input reads as it did. -/
def faultLastsSpec : ChangeSpec := { name := "faultLasts", fn := fun _ => fun
  | [d1, d2] => { results := [.lit (.bool true)], args := [d1, d2] }
  | _ => none }
def faultLastsRow : OpenClaim := { program := "ytlhmeoeamcgcmaagreat", sum := "871d4c3e768ca61e8a01ebb6db88a23b0daa7a01627e175a50aa3e40d719085d", func := "petersham/petershamlaw04.FaultLasts", spec := "faultLasts", unfollowed := true, recurses := true, plainKeys := false, apart := false }
def FaultLastsSaid : Prop := faultLastsRow.holds Tryz.pinned (OpenSpec.ofChange faultLastsSpec)

/-- ITS FALSE NEIGHBOUR: 'it returns false'. Refute it at one input. -/
def faultLastsWrong : ChangeSpec := { name := "faultLasts", fn := fun _ => fun
  | [d1, d2] => { results := [.lit (.bool false)], args := [d1, d2] }
  | _ => none }
def FaultLastsWrongFalsely : Prop := faultLastsRow.holds Tryz.pinned (OpenSpec.ofChange faultLastsWrong)

/-- 'petershamlaw04.FaultFewest': WHATEVER THE INPUT: true; the input reads as it did. -/
def faultFewestSpec : ChangeSpec := { name := "faultFewest", fn := fun _ => fun
  | [d1, d2, d3] => { results := [.lit (.bool true)], args := [d1, d2, d3] }
  | _ => none }
def faultFewestRow : OpenClaim := { program := "ytlhmeoeamcgcmaagreat", sum := "871d4c3e768ca61e8a01ebb6db88a23b0daa7a01627e175a50aa3e40d719085d", func := "petersham/petershamlaw04.FaultFewest", spec := "faultFewest", unfollowed := true, recurses := true, plainKeys := false, apart := false }
def FaultFewestSaid : Prop := faultFewestRow.holds Tryz.pinned (OpenSpec.ofChange faultFewestSpec)

/-- ITS FALSE NEIGHBOUR: 'it returns false'. Refute it at one input. -/
def faultFewestWrong : ChangeSpec := { name := "faultFewest", fn := fun _ => fun
  | [d1, d2, d3] => { results := [.lit (.bool false)], args := [d1, d2, d3] }
  | _ => none }
def FaultFewestWrongFalsely : Prop := faultFewestRow.holds Tryz.pinned (OpenSpec.ofChange faultFewestWrong)

/-- 'petershamlaw04.FaultWeavers': WHATEVER THE INPUT: true; the input reads as it did. -/
def faultWeaversSpec : ChangeSpec := { name := "faultWeavers", fn := fun _ => fun
  | [d1, d2, d3] => { results := [.lit (.bool true)], args := [d1, d2, d3] }
  | _ => none }
def faultWeaversRow : OpenClaim := { program := "ytlhmeoeamcgcmaagreat", sum := "871d4c3e768ca61e8a01ebb6db88a23b0daa7a01627e175a50aa3e40d719085d", func := "petersham/petershamlaw04.FaultWeavers", spec := "faultWeavers", unfollowed := true, recurses := true, plainKeys := false, apart := false }
def FaultWeaversSaid : Prop := faultWeaversRow.holds Tryz.pinned (OpenSpec.ofChange faultWeaversSpec)

/-- ITS FALSE NEIGHBOUR: 'it returns false'. Refute it at one input. -/
def faultWeaversWrong : ChangeSpec := { name := "faultWeavers", fn := fun _ => fun
  | [d1, d2, d3] => { results := [.lit (.bool false)], args := [d1, d2, d3] }
  | _ => none }
def FaultWeaversWrongFalsely : Prop := faultWeaversRow.holds Tryz.pinned (OpenSpec.ofChange faultWeaversWrong)

/-- 'petershamlaw04.FaultTruths': WHATEVER THE INPUT: true; the input reads as it did. -/
def faultTruthsSpec : ChangeSpec := { name := "faultTruths", fn := fun _ => fun
  | [d1, d2, d3] => { results := [.lit (.bool true)], args := [d1, d2, d3] }
  | _ => none }
def faultTruthsRow : OpenClaim := { program := "ytlhmeoeamcgcmaagreat", sum := "871d4c3e768ca61e8a01ebb6db88a23b0daa7a01627e175a50aa3e40d719085d", func := "petersham/petershamlaw04.FaultTruths", spec := "faultTruths", unfollowed := true, recurses := true, plainKeys := false, apart := false }
def FaultTruthsSaid : Prop := faultTruthsRow.holds Tryz.pinned (OpenSpec.ofChange faultTruthsSpec)

/-- ITS FALSE NEIGHBOUR: 'it returns false'. Refute it at one input. -/
def faultTruthsWrong : ChangeSpec := { name := "faultTruths", fn := fun _ => fun
  | [d1, d2, d3] => { results := [.lit (.bool false)], args := [d1, d2, d3] }
  | _ => none }
def FaultTruthsWrongFalsely : Prop := faultTruthsRow.holds Tryz.pinned (OpenSpec.ofChange faultTruthsWrong)

/-- 'petershamlaw04.FaultCards': WHATEVER THE INPUT: true; the input reads as it did. -/
def faultCardsSpec : ChangeSpec := { name := "faultCards", fn := fun _ => fun
  | [d1, d2, d3, d4] => { results := [.lit (.bool true)], args := [d1, d2, d3, d4] }
  | _ => none }
def faultCardsRow : OpenClaim := { program := "ytlhmeoeamcgcmaagreat", sum := "871d4c3e768ca61e8a01ebb6db88a23b0daa7a01627e175a50aa3e40d719085d", func := "petersham/petershamlaw04.FaultCards", spec := "faultCards", unfollowed := true, recurses := true, plainKeys := false, apart := false }
def FaultCardsSaid : Prop := faultCardsRow.holds Tryz.pinned (OpenSpec.ofChange faultCardsSpec)

/-- ITS FALSE NEIGHBOUR: 'it returns false'. Refute it at one input. -/
def faultCardsWrong : ChangeSpec := { name := "faultCards", fn := fun _ => fun
  | [d1, d2, d3, d4] => { results := [.lit (.bool false)], args := [d1, d2, d3, d4] }
  | _ => none }
def FaultCardsWrongFalsely : Prop := faultCardsRow.holds Tryz.pinned (OpenSpec.ofChange faultCardsWrong)

/-- 'petershamlaw04.FaultSmall': WHATEVER THE INPUT: true; the input reads as it did. -/
def faultSmallSpec : ChangeSpec := { name := "faultSmall", fn := fun _ => fun
  | [] => { results := [.lit (.bool true)], args := [] }
  | _ => none }
def faultSmallRow : OpenClaim := { program := "ytlhmeoeamcgcmaagreat", sum := "871d4c3e768ca61e8a01ebb6db88a23b0daa7a01627e175a50aa3e40d719085d", func := "petersham/petershamlaw04.FaultSmall", spec := "faultSmall", unfollowed := true, recurses := true, plainKeys := false, apart := false }
def FaultSmallSaid : Prop := faultSmallRow.holds Tryz.pinned (OpenSpec.ofChange faultSmallSpec)

/-- ITS FALSE NEIGHBOUR: 'it returns false'. Refute it at one input. -/
def faultSmallWrong : ChangeSpec := { name := "faultSmall", fn := fun _ => fun
  | [] => { results := [.lit (.bool false)], args := [] }
  | _ => none }
def FaultSmallWrongFalsely : Prop := faultSmallRow.holds Tryz.pinned (OpenSpec.ofChange faultSmallWrong)

/-- 'petershamlaw04.FaultSpots': WHATEVER THE INPUT: true; the input reads as it did. -/
def faultSpotsSpec : ChangeSpec := { name := "faultSpots", fn := fun _ => fun
  | [d1, d2, d3, d4, d5] => { results := [.lit (.bool true)], args := [d1, d2, d3, d4, d5] }
  | _ => none }
def faultSpotsRow : OpenClaim := { program := "ytlhmeoeamcgcmaagreat", sum := "871d4c3e768ca61e8a01ebb6db88a23b0daa7a01627e175a50aa3e40d719085d", func := "petersham/petershamlaw04.FaultSpots", spec := "faultSpots", unfollowed := true, recurses := true, plainKeys := false, apart := false }
def FaultSpotsSaid : Prop := faultSpotsRow.holds Tryz.pinned (OpenSpec.ofChange faultSpotsSpec)

/-- ITS FALSE NEIGHBOUR: 'it returns false'. Refute it at one input. -/
def faultSpotsWrong : ChangeSpec := { name := "faultSpots", fn := fun _ => fun
  | [d1, d2, d3, d4, d5] => { results := [.lit (.bool false)], args := [d1, d2, d3, d4, d5] }
  | _ => none }
def FaultSpotsWrongFalsely : Prop := faultSpotsRow.holds Tryz.pinned (OpenSpec.ofChange faultSpotsWrong)

/-- 'petershamlaw04.FaultNamed': WHATEVER THE INPUT: true; the input reads as it did. -/
def faultNamedSpec : ChangeSpec := { name := "faultNamed", fn := fun _ => fun
  | [d1, d2, d3] => { results := [.lit (.bool true)], args := [d1, d2, d3] }
  | _ => none }
def faultNamedRow : OpenClaim := { program := "ytlhmeoeamcgcmaagreat", sum := "871d4c3e768ca61e8a01ebb6db88a23b0daa7a01627e175a50aa3e40d719085d", func := "petersham/petershamlaw04.FaultNamed", spec := "faultNamed", unfollowed := true, recurses := true, plainKeys := false, apart := false }
def FaultNamedSaid : Prop := faultNamedRow.holds Tryz.pinned (OpenSpec.ofChange faultNamedSpec)

/-- ITS FALSE NEIGHBOUR: 'it returns false'. Refute it at one input. -/
def faultNamedWrong : ChangeSpec := { name := "faultNamed", fn := fun _ => fun
  | [d1, d2, d3] => { results := [.lit (.bool false)], args := [d1, d2, d3] }
  | _ => none }
def FaultNamedWrongFalsely : Prop := faultNamedRow.holds Tryz.pinned (OpenSpec.ofChange faultNamedWrong)

/- THE SECOND FORM. 'bulk': how many values and letters a reading holds, each counted each time it is reached (what is shared counts as often as it is met; a slice's spare places count too). A statement '..UptoSaid' is the law's where the arguments, and the package variables that the reading takes, are together of bulk at most 1048576: NARROWER than '..Said'. Prove '..Said' where nothing that the law and all that it calls make is longer than what came in: it says more and counts as full. Else prove '..UptoSaid'. A law counts once. -/
mutual
def uptoBulk {H : Type} : DataW H → Nat
  | .lit (.string bytes) => bytes.length + 1
  | .lit _ => 1
  | .nil => 1
  | .ptr d => uptoBulk d + 1
  | .slice elems spare => uptoBulkAll elems + uptoBulkAll spare + 1
  | .agg parts => uptoBulkAll parts + 1
  | .iface _ d => uptoBulk d + 1
  | .map entries => uptoBulkEntries entries + 1
  | .held _ => 1
def uptoBulkAll {H : Type} : List (DataW H) → Nat
  | [] => 0
  | d :: r => uptoBulk d + uptoBulkAll r
def uptoBulkEntries {H : Type} : List (Lit × DataW H) → Nat
  | [] => 0
  | x :: r => uptoBulkEntry x + uptoBulkEntries r
def uptoBulkEntry {H : Type} : Lit × DataW H → Nat
  | (.string bytes, d) => bytes.length + uptoBulk d + 1
  | (_, d) => uptoBulk d + 1
 end
def uptoSmall : (H : Type) → List (DataW H) → Bool := fun _ ds => decide (uptoBulkAll ds ≤ 1048576)
def OpenSpec.upto (s : _root_.Go.ChangeSpec) : _root_.Go.OpenSpec := { _root_.Go.OpenSpec.ofChange s with cond := some uptoSmall }

/-- 'petershamlaw04.FaultLasts', WHERE WHAT IT READS IS OF BULK AT MOST 1048576: true; the input reads as it did. -/
def faultLastsUptoRow : OpenClaim := { program := "ytlhmeoeamcgcmaagreat", sum := "871d4c3e768ca61e8a01ebb6db88a23b0daa7a01627e175a50aa3e40d719085d", func := "petersham/petershamlaw04.FaultLasts", spec := "faultLasts", unfollowed := true, recurses := true, plainKeys := false, apart := false, narrowed := true }
def FaultLastsUptoSaid : Prop := faultLastsUptoRow.holds Tryz.pinned (OpenSpec.upto faultLastsSpec)

/-- 'petershamlaw04.FaultFewest', WHERE WHAT IT READS IS OF BULK AT MOST 1048576: true; the input reads as it did. -/
def faultFewestUptoRow : OpenClaim := { program := "ytlhmeoeamcgcmaagreat", sum := "871d4c3e768ca61e8a01ebb6db88a23b0daa7a01627e175a50aa3e40d719085d", func := "petersham/petershamlaw04.FaultFewest", spec := "faultFewest", unfollowed := true, recurses := true, plainKeys := false, apart := false, narrowed := true }
def FaultFewestUptoSaid : Prop := faultFewestUptoRow.holds Tryz.pinned (OpenSpec.upto faultFewestSpec)

/-- 'petershamlaw04.FaultWeavers', WHERE WHAT IT READS IS OF BULK AT MOST 1048576: true; the input reads as it did. -/
def faultWeaversUptoRow : OpenClaim := { program := "ytlhmeoeamcgcmaagreat", sum := "871d4c3e768ca61e8a01ebb6db88a23b0daa7a01627e175a50aa3e40d719085d", func := "petersham/petershamlaw04.FaultWeavers", spec := "faultWeavers", unfollowed := true, recurses := true, plainKeys := false, apart := false, narrowed := true }
def FaultWeaversUptoSaid : Prop := faultWeaversUptoRow.holds Tryz.pinned (OpenSpec.upto faultWeaversSpec)

/-- 'petershamlaw04.FaultTruths', WHERE WHAT IT READS IS OF BULK AT MOST 1048576: true; the input reads as it did. -/
def faultTruthsUptoRow : OpenClaim := { program := "ytlhmeoeamcgcmaagreat", sum := "871d4c3e768ca61e8a01ebb6db88a23b0daa7a01627e175a50aa3e40d719085d", func := "petersham/petershamlaw04.FaultTruths", spec := "faultTruths", unfollowed := true, recurses := true, plainKeys := false, apart := false, narrowed := true }
def FaultTruthsUptoSaid : Prop := faultTruthsUptoRow.holds Tryz.pinned (OpenSpec.upto faultTruthsSpec)

/-- 'petershamlaw04.FaultCards', WHERE WHAT IT READS IS OF BULK AT MOST 1048576: true; the input reads as it did. -/
def faultCardsUptoRow : OpenClaim := { program := "ytlhmeoeamcgcmaagreat", sum := "871d4c3e768ca61e8a01ebb6db88a23b0daa7a01627e175a50aa3e40d719085d", func := "petersham/petershamlaw04.FaultCards", spec := "faultCards", unfollowed := true, recurses := true, plainKeys := false, apart := false, narrowed := true }
def FaultCardsUptoSaid : Prop := faultCardsUptoRow.holds Tryz.pinned (OpenSpec.upto faultCardsSpec)

/-- 'petershamlaw04.FaultSmall', WHERE WHAT IT READS IS OF BULK AT MOST 1048576: true; the input reads as it did. -/
def faultSmallUptoRow : OpenClaim := { program := "ytlhmeoeamcgcmaagreat", sum := "871d4c3e768ca61e8a01ebb6db88a23b0daa7a01627e175a50aa3e40d719085d", func := "petersham/petershamlaw04.FaultSmall", spec := "faultSmall", unfollowed := true, recurses := true, plainKeys := false, apart := false, narrowed := true }
def FaultSmallUptoSaid : Prop := faultSmallUptoRow.holds Tryz.pinned (OpenSpec.upto faultSmallSpec)

/-- 'petershamlaw04.FaultSpots', WHERE WHAT IT READS IS OF BULK AT MOST 1048576: true; the input reads as it did. -/
def faultSpotsUptoRow : OpenClaim := { program := "ytlhmeoeamcgcmaagreat", sum := "871d4c3e768ca61e8a01ebb6db88a23b0daa7a01627e175a50aa3e40d719085d", func := "petersham/petershamlaw04.FaultSpots", spec := "faultSpots", unfollowed := true, recurses := true, plainKeys := false, apart := false, narrowed := true }
def FaultSpotsUptoSaid : Prop := faultSpotsUptoRow.holds Tryz.pinned (OpenSpec.upto faultSpotsSpec)

/-- 'petershamlaw04.FaultNamed', WHERE WHAT IT READS IS OF BULK AT MOST 1048576: true; the input reads as it did. -/
def faultNamedUptoRow : OpenClaim := { program := "ytlhmeoeamcgcmaagreat", sum := "871d4c3e768ca61e8a01ebb6db88a23b0daa7a01627e175a50aa3e40d719085d", func := "petersham/petershamlaw04.FaultNamed", spec := "faultNamed", unfollowed := true, recurses := true, plainKeys := false, apart := false, narrowed := true }
def FaultNamedUptoSaid : Prop := faultNamedUptoRow.holds Tryz.pinned (OpenSpec.upto faultNamedSpec)

end Rows
end Go.Proofs.YtlhmeoeamcgcmaaGreat
