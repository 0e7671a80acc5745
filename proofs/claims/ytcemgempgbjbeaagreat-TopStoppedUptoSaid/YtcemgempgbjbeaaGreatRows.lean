/-
  No cell of these rows narrows 'for every input' (looked for: loops, veiled, ifaces, maps, wideKeys, modest, calm, conditions, laid).
  DERIVED. THE GIVEN ROWS OF THIS SEAT. 4 by the template 'for every input the law returns true; each argument reads behind the call as it read before'; 0 by the template 'total and deterministic' (their statements: YtcemgempgbjbeaaGreatTotals.lean).
  GIVEN WITH THE SEED: the statements are not yours to turn. If you find one false, say at which input.
  Laid BY PROGRAM, IN A SANDBOX (cutbox-rows.mjs): the forced cells as the released guide's own fill.sh prints them over the translation 5fa684f8ba786a21… (all of the seat's roots in one cut). By AI agents, Wed Nov 11 2026. No macro, syntax, notation, axiom, sorry.
-/
import Derived.Test.YtcemgempgbjbeaaGreatChecked
import GoSem.Claim
import GoSem.ClaimJoined
import GoSem.ClaimMapViews
import Derived.JoinedTies
import Derived.KernelRfl
namespace Go.Proofs.YtcemgempgbjbeaaGreat
/- THE CELL 'sum', in the pinned program and in every row, IS THE sha256 OF THE DUMP (.gsa) THAT YtcemgempgbjbeaaGreatProg.lean LOADS. Nothing in Lean hashes anything: it is a label: what it is worth is what the hold of that sum in a sandbox is worth. -/
noncomputable def Tryz.pinned : Pinned := { name := "ytcemgempgbjbeaagreat", sum := "5fa684f8ba786a210e61059cc8e7c8e59b42471d9468431391e367870d17c3f9", checked := Tryz.checked }
namespace Rows
def none {H : Type} : Left H := { results := [], args := [] }

/-- 'petershamtop.TopSewn': WHATEVER THE INPUT: true; the input reads as it did. -/
def topSewnSpec : ChangeSpec := { name := "topSewn", fn := fun _ => fun
  | [d1, d2] => { results := [.lit (.bool true)], args := [d1, d2] }
  | _ => none }
def topSewnRow : OpenClaim := { program := "ytcemgempgbjbeaagreat", sum := "5fa684f8ba786a210e61059cc8e7c8e59b42471d9468431391e367870d17c3f9", func := "petersham/petershamtop.TopSewn", spec := "topSewn", unfollowed := true, recurses := true, plainKeys := false, apart := false }
def TopSewnSaid : Prop := topSewnRow.holds Tryz.pinned (OpenSpec.ofChange topSewnSpec)

/-- ITS FALSE NEIGHBOUR: 'it returns false'. Refute it at one input. -/
def topSewnWrong : ChangeSpec := { name := "topSewn", fn := fun _ => fun
  | [d1, d2] => { results := [.lit (.bool false)], args := [d1, d2] }
  | _ => none }
def TopSewnWrongFalsely : Prop := topSewnRow.holds Tryz.pinned (OpenSpec.ofChange topSewnWrong)

/-- 'petershamtop.TopWrongCard': WHATEVER THE INPUT: true; the input reads as it did. -/
def topWrongCardSpec : ChangeSpec := { name := "topWrongCard", fn := fun _ => fun
  | [d1, d2, d3, d4, d5] => { results := [.lit (.bool true)], args := [d1, d2, d3, d4, d5] }
  | _ => none }
def topWrongCardRow : OpenClaim := { program := "ytcemgempgbjbeaagreat", sum := "5fa684f8ba786a210e61059cc8e7c8e59b42471d9468431391e367870d17c3f9", func := "petersham/petershamtop.TopWrongCard", spec := "topWrongCard", unfollowed := true, recurses := true, plainKeys := false, apart := false }
def TopWrongCardSaid : Prop := topWrongCardRow.holds Tryz.pinned (OpenSpec.ofChange topWrongCardSpec)

/-- ITS FALSE NEIGHBOUR: 'it returns false'. Refute it at one input. -/
def topWrongCardWrong : ChangeSpec := { name := "topWrongCard", fn := fun _ => fun
  | [d1, d2, d3, d4, d5] => { results := [.lit (.bool false)], args := [d1, d2, d3, d4, d5] }
  | _ => none }
def TopWrongCardWrongFalsely : Prop := topWrongCardRow.holds Tryz.pinned (OpenSpec.ofChange topWrongCardWrong)

/-- 'petershamtop.TopWasted': WHATEVER THE INPUT: true; the input reads as it did. -/
def topWastedSpec : ChangeSpec := { name := "topWasted", fn := fun _ => fun
  | [d] => { results := [.lit (.bool true)], args := [d] }
  | _ => none }
def topWastedRow : OpenClaim := { program := "ytcemgempgbjbeaagreat", sum := "5fa684f8ba786a210e61059cc8e7c8e59b42471d9468431391e367870d17c3f9", func := "petersham/petershamtop.TopWasted", spec := "topWasted", unfollowed := true, recurses := true, plainKeys := false, apart := false }
def TopWastedSaid : Prop := topWastedRow.holds Tryz.pinned (OpenSpec.ofChange topWastedSpec)

/-- ITS FALSE NEIGHBOUR: 'it returns false'. Refute it at one input. -/
def topWastedWrong : ChangeSpec := { name := "topWasted", fn := fun _ => fun
  | [d] => { results := [.lit (.bool false)], args := [d] }
  | _ => none }
def TopWastedWrongFalsely : Prop := topWastedRow.holds Tryz.pinned (OpenSpec.ofChange topWastedWrong)

/-- 'petershamtop.TopStopped': WHATEVER THE INPUT: true; the input reads as it did. -/
def topStoppedSpec : ChangeSpec := { name := "topStopped", fn := fun _ => fun
  | [d1, d2, d3] => { results := [.lit (.bool true)], args := [d1, d2, d3] }
  | _ => none }
def topStoppedRow : OpenClaim := { program := "ytcemgempgbjbeaagreat", sum := "5fa684f8ba786a210e61059cc8e7c8e59b42471d9468431391e367870d17c3f9", func := "petersham/petershamtop.TopStopped", spec := "topStopped", unfollowed := true, recurses := true, plainKeys := false, apart := false }
def TopStoppedSaid : Prop := topStoppedRow.holds Tryz.pinned (OpenSpec.ofChange topStoppedSpec)

/-- ITS FALSE NEIGHBOUR: 'it returns false'. Refute it at one input. -/
def topStoppedWrong : ChangeSpec := { name := "topStopped", fn := fun _ => fun
  | [d1, d2, d3] => { results := [.lit (.bool false)], args := [d1, d2, d3] }
  | _ => none }
def TopStoppedWrongFalsely : Prop := topStoppedRow.holds Tryz.pinned (OpenSpec.ofChange topStoppedWrong)

/- THE SECOND FORM. 'bulk': how many values and letters a reading holds, each counted each time it is reached (what is shared counts as often as it is met; a slice's spare places count too). A statement '..UptoSaid' is the law's where the arguments, and the package variables that the reading takes, are together of bulk at most 1048576: NARROWER than '..Said'. Prove '..Said' where nothing that the law and all that it calls make is longer than what came in: it says more and counts as full. Else prove '..UptoSaid'. A law counts once. -/
mutual
def uptoBulk {H : Type} : DataW H → Nat
  | .lit (.string bytes) => bytes.length + 1
  | .lit _ => 1
  | .nil => 1
  | .ptr d => uptoBulk d + 1
  | .slice elems spare => uptoBulkAll elems + uptoBulkAll spare + 1
  | .agg parts => uptoBulkAll parts + 1
  | .iface _ d => uptoBulk d + 1
  | .map entries => uptoBulkEntries entries + 1
  | .held _ => 1
def uptoBulkAll {H : Type} : List (DataW H) → Nat
  | [] => 0
  | d :: r => uptoBulk d + uptoBulkAll r
def uptoBulkEntries {H : Type} : List (Lit × DataW H) → Nat
  | [] => 0
  | x :: r => uptoBulkEntry x + uptoBulkEntries r
def uptoBulkEntry {H : Type} : Lit × DataW H → Nat
  | (.string bytes, d) => bytes.length + uptoBulk d + 1
  | (_, d) => uptoBulk d + 1
 end
def uptoSmall : (H : Type) → List (DataW H) → Bool := fun _ ds => decide (uptoBulkAll ds ≤ 1048576)
def OpenSpec.upto (s : _root_.Go.ChangeSpec) : _root_.Go.OpenSpec := { _root_.Go.OpenSpec.ofChange s with cond := some uptoSmall }

/-- 'petershamtop.TopSewn', WHERE WHAT IT READS IS OF BULK AT MOST 1048576: true; the input reads as it did. -/
def topSewnUptoRow : OpenClaim := { program := "ytcemgempgbjbeaagreat", sum := "5fa684f8ba786a210e61059cc8e7c8e59b42471d9468431391e367870d17c3f9", func := "petersham/petershamtop.TopSewn", spec := "topSewn", unfollowed := true, recurses := true, plainKeys := false, apart := false, narrowed := true }
def TopSewnUptoSaid : Prop := topSewnUptoRow.holds Tryz.pinned (OpenSpec.upto topSewnSpec)

/-- 'petershamtop.TopWrongCard', WHERE WHAT IT READS IS OF BULK AT MOST 1048576: true; the input reads as it did. -/
def topWrongCardUptoRow : OpenClaim := { program := "ytcemgempgbjbeaagreat", sum := "5fa684f8ba786a210e61059cc8e7c8e59b42471d9468431391e367870d17c3f9", func := "petersham/petershamtop.TopWrongCard", spec := "topWrongCard", unfollowed := true, recurses := true, plainKeys := false, apart := false, narrowed := true }
def TopWrongCardUptoSaid : Prop := topWrongCardUptoRow.holds Tryz.pinned (OpenSpec.upto topWrongCardSpec)

/-- 'petershamtop.TopWasted', WHERE WHAT IT READS IS OF BULK AT MOST 1048576: true; the input reads as it did. -/
def topWastedUptoRow : OpenClaim := { program := "ytcemgempgbjbeaagreat", sum := "5fa684f8ba786a210e61059cc8e7c8e59b42471d9468431391e367870d17c3f9", func := "petersham/petershamtop.TopWasted", spec := "topWasted", unfollowed := true, recurses := true, plainKeys := false, apart := false, narrowed := true }
def TopWastedUptoSaid : Prop := topWastedUptoRow.holds Tryz.pinned (OpenSpec.upto topWastedSpec)

/-- 'petershamtop.TopStopped', WHERE WHAT IT READS IS OF BULK AT MOST 1048576: true; the input reads as it did. -/
def topStoppedUptoRow : OpenClaim := { program := "ytcemgempgbjbeaagreat", sum := "5fa684f8ba786a210e61059cc8e7c8e59b42471d9468431391e367870d17c3f9", func := "petersham/petershamtop.TopStopped", spec := "topStopped", unfollowed := true, recurses := true, plainKeys := false, apart := false, narrowed := true }
def TopStoppedUptoSaid : Prop := topStoppedUptoRow.holds Tryz.pinned (OpenSpec.upto topStoppedSpec)

end Rows
end Go.Proofs.YtcemgempgbjbeaaGreat
