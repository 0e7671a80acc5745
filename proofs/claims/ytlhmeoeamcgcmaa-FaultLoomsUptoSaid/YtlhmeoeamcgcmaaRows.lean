/-
  No cell of these rows narrows 'for every input' (looked for: loops, veiled, ifaces, maps, wideKeys, modest, calm, conditions, laid).
  DERIVED. THE GIVEN ROWS OF THIS SEAT. 6 by the template 'for every input the law returns true; each argument reads behind the call as it read before'; 0 by the template 'total and deterministic' (their statements: YtlhmeoeamcgcmaaTotals.lean).
  GIVEN WITH THE SEED: the statements are not yours to turn. If you find one false, say at which input.
  Laid BY PROGRAM, IN A SANDBOX (cutbox-rows.mjs): the forced cells as the released guide's own fill.sh prints them over the translation e8bbc7639eeeb86c… (all of the seat's roots in one cut). By AI agents, Wed Nov 11 2026. No macro, syntax, notation, axiom, sorry.
-/
import Derived.Test.YtlhmeoeamcgcmaaChecked
import GoSem.Claim
import GoSem.ClaimJoined
import GoSem.ClaimMapViews
import Derived.JoinedTies
import Derived.KernelRfl
namespace Go.Proofs.Ytlhmeoeamcgcmaa
/- THE CELL 'sum', in the pinned program and in every row, IS THE sha256 OF THE DUMP (.gsa) THAT YtlhmeoeamcgcmaaProg.lean LOADS. Nothing in Lean hashes anything: it is a label: what it is worth is what the hold of that sum in a sandbox is worth. -/
noncomputable def Try.pinned : Pinned := { name := "ytlhmeoeamcgcmaa", sum := "e8bbc7639eeeb86cdc1c0f9d2f18da9ecdf701f43a9f5e4f6fd43d9cc41c9159", checked := Try.checked }
namespace Rows
def none {H : Type} : Left H := { results := [], args := [] }

/-- 'petershamlaw04.FaultClashed': WHATEVER THE INPUT: true; the input reads as it did. -/
def faultClashedSpec : ChangeSpec := { name := "faultClashed", fn := fun _ => fun
  | [d1, d2, d3] => { results := [.lit (.bool true)], args := [d1, d2, d3] }
  | _ => none }
def faultClashedRow : OpenClaim := { program := "ytlhmeoeamcgcmaa", sum := "e8bbc7639eeeb86cdc1c0f9d2f18da9ecdf701f43a9f5e4f6fd43d9cc41c9159", func := "petersham/petershamlaw04.FaultClashed", spec := "faultClashed", unfollowed := true, recurses := true, plainKeys := false, apart := false }
def FaultClashedSaid : Prop := faultClashedRow.holds Try.pinned (OpenSpec.ofChange faultClashedSpec)

/-- ITS FALSE NEIGHBOUR: 'it returns false'. Refute it at one input. -/
def faultClashedWrong : ChangeSpec := { name := "faultClashed", fn := fun _ => fun
  | [d1, d2, d3] => { results := [.lit (.bool false)], args := [d1, d2, d3] }
  | _ => none }
def FaultClashedWrongFalsely : Prop := faultClashedRow.holds Try.pinned (OpenSpec.ofChange faultClashedWrong)

/-- 'petershamlaw04.FaultLasting': WHATEVER THE INPUT: true; the input reads as it did. -/
def faultLastingSpec : ChangeSpec := { name := "faultLasting", fn := fun _ => fun
  | [d1, d2] => { results := [.lit (.bool true)], args := [d1, d2] }
  | _ => none }
def faultLastingRow : OpenClaim := { program := "ytlhmeoeamcgcmaa", sum := "e8bbc7639eeeb86cdc1c0f9d2f18da9ecdf701f43a9f5e4f6fd43d9cc41c9159", func := "petersham/petershamlaw04.FaultLasting", spec := "faultLasting", unfollowed := true, recurses := true, plainKeys := false, apart := false }
def FaultLastingSaid : Prop := faultLastingRow.holds Try.pinned (OpenSpec.ofChange faultLastingSpec)

/-- ITS FALSE NEIGHBOUR: 'it returns false'. Refute it at one input. -/
def faultLastingWrong : ChangeSpec := { name := "faultLasting", fn := fun _ => fun
  | [d1, d2] => { results := [.lit (.bool false)], args := [d1, d2] }
  | _ => none }
def FaultLastingWrongFalsely : Prop := faultLastingRow.holds Try.pinned (OpenSpec.ofChange faultLastingWrong)

/-- 'petershamlaw04.FaultApart': WHATEVER THE INPUT: true; the input reads as it did. -/
def faultApartSpec : ChangeSpec := { name := "faultApart", fn := fun _ => fun
  | [d1, d2] => { results := [.lit (.bool true)], args := [d1, d2] }
  | _ => none }
def faultApartRow : OpenClaim := { program := "ytlhmeoeamcgcmaa", sum := "e8bbc7639eeeb86cdc1c0f9d2f18da9ecdf701f43a9f5e4f6fd43d9cc41c9159", func := "petersham/petershamlaw04.FaultApart", spec := "faultApart", unfollowed := true, recurses := true, plainKeys := false, apart := false }
def FaultApartSaid : Prop := faultApartRow.holds Try.pinned (OpenSpec.ofChange faultApartSpec)

/-- ITS FALSE NEIGHBOUR: 'it returns false'. Refute it at one input. -/
def faultApartWrong : ChangeSpec := { name := "faultApart", fn := fun _ => fun
  | [d1, d2] => { results := [.lit (.bool false)], args := [d1, d2] }
  | _ => none }
def FaultApartWrongFalsely : Prop := faultApartRow.holds Try.pinned (OpenSpec.ofChange faultApartWrong)

/-- 'petershamlaw04.FaultMore': WHATEVER THE INPUT: true; the input reads as it did. -/
def faultMoreSpec : ChangeSpec := { name := "faultMore", fn := fun _ => fun
  | [d1, d2, d3, d4] => { results := [.lit (.bool true)], args := [d1, d2, d3, d4] }
  | _ => none }
def faultMoreRow : OpenClaim := { program := "ytlhmeoeamcgcmaa", sum := "e8bbc7639eeeb86cdc1c0f9d2f18da9ecdf701f43a9f5e4f6fd43d9cc41c9159", func := "petersham/petershamlaw04.FaultMore", spec := "faultMore", unfollowed := true, recurses := true, plainKeys := false, apart := false }
def FaultMoreSaid : Prop := faultMoreRow.holds Try.pinned (OpenSpec.ofChange faultMoreSpec)

/-- ITS FALSE NEIGHBOUR: 'it returns false'. Refute it at one input. -/
def faultMoreWrong : ChangeSpec := { name := "faultMore", fn := fun _ => fun
  | [d1, d2, d3, d4] => { results := [.lit (.bool false)], args := [d1, d2, d3, d4] }
  | _ => none }
def FaultMoreWrongFalsely : Prop := faultMoreRow.holds Try.pinned (OpenSpec.ofChange faultMoreWrong)

/-- 'petershamlaw04.FaultLooms': WHATEVER THE INPUT: true; the input reads as it did. -/
def faultLoomsSpec : ChangeSpec := { name := "faultLooms", fn := fun _ => fun
  | [d1, d2] => { results := [.lit (.bool true)], args := [d1, d2] }
  | _ => none }
def faultLoomsRow : OpenClaim := { program := "ytlhmeoeamcgcmaa", sum := "e8bbc7639eeeb86cdc1c0f9d2f18da9ecdf701f43a9f5e4f6fd43d9cc41c9159", func := "petersham/petershamlaw04.FaultLooms", spec := "faultLooms", unfollowed := true, recurses := true, plainKeys := false, apart := false }
def FaultLoomsSaid : Prop := faultLoomsRow.holds Try.pinned (OpenSpec.ofChange faultLoomsSpec)

/-- ITS FALSE NEIGHBOUR: 'it returns false'. Refute it at one input. -/
def faultLoomsWrong : ChangeSpec := { name := "faultLooms", fn := fun _ => fun
  | [d1, d2] => { results := [.lit (.bool false)], args := [d1, d2] }
  | _ => none }
def FaultLoomsWrongFalsely : Prop := faultLoomsRow.holds Try.pinned (OpenSpec.ofChange faultLoomsWrong)

/-- 'petershamlaw04.FaultFound': WHATEVER THE INPUT: true; the input reads as it did. -/
def faultFoundSpec : ChangeSpec := { name := "faultFound", fn := fun _ => fun
  | [d1, d2] => { results := [.lit (.bool true)], args := [d1, d2] }
  | _ => none }
def faultFoundRow : OpenClaim := { program := "ytlhmeoeamcgcmaa", sum := "e8bbc7639eeeb86cdc1c0f9d2f18da9ecdf701f43a9f5e4f6fd43d9cc41c9159", func := "petersham/petershamlaw04.FaultFound", spec := "faultFound", unfollowed := true, recurses := true, plainKeys := false, apart := false }
def FaultFoundSaid : Prop := faultFoundRow.holds Try.pinned (OpenSpec.ofChange faultFoundSpec)

/-- ITS FALSE NEIGHBOUR: 'it returns false'. Refute it at one input. -/
def faultFoundWrong : ChangeSpec := { name := "faultFound", fn := fun _ => fun
  | [d1, d2] => { results := [.lit (.bool false)], args := [d1, d2] }
  | _ => none }
def FaultFoundWrongFalsely : Prop := faultFoundRow.holds Try.pinned (OpenSpec.ofChange faultFoundWrong)

/- THE SECOND FORM. 'bulk': how many values and letters a reading holds, each counted each time it is reached (what is shared counts as often as it is met; a slice's spare places count too). A statement '..UptoSaid' is the law's where the arguments, and the package variables that the reading takes, are together of bulk at most 1048576: NARROWER than '..Said'. Prove '..Said' where nothing that the law and all that it calls make is longer than what came in: it says more and counts as full. Else prove '..UptoSaid'. A law counts once. -/
mutual
def uptoBulk {H : Type} : DataW H → Nat
  | .lit (.string bytes) => bytes.length + 1
  | .lit _ => 1
  | .nil => 1
  | .ptr d => uptoBulk d + 1
  | .slice elems spare => uptoBulkAll elems + uptoBulkAll spare + 1
  | .agg parts => uptoBulkAll parts + 1
  | .iface _ d => uptoBulk d + 1
  | .map entries => uptoBulkEntries entries + 1
  | .held _ => 1
def uptoBulkAll {H : Type} : List (DataW H) → Nat
  | [] => 0
  | d :: r => uptoBulk d + uptoBulkAll r
def uptoBulkEntries {H : Type} : List (Lit × DataW H) → Nat
  | [] => 0
  | x :: r => uptoBulkEntry x + uptoBulkEntries r
def uptoBulkEntry {H : Type} : Lit × DataW H → Nat
  | (.string bytes, d) => bytes.length + uptoBulk d + 1
  | (_, d) => uptoBulk d + 1
 end
def uptoSmall : (H : Type) → List (DataW H) → Bool := fun _ ds => decide (uptoBulkAll ds ≤ 1048576)
def OpenSpec.upto (s : _root_.Go.ChangeSpec) : _root_.Go.OpenSpec := { _root_.Go.OpenSpec.ofChange s with cond := some uptoSmall }

/-- 'petershamlaw04.FaultClashed', WHERE WHAT IT READS IS OF BULK AT MOST 1048576: true; the input reads as it did. -/
def faultClashedUptoRow : OpenClaim := { program := "ytlhmeoeamcgcmaa", sum := "e8bbc7639eeeb86cdc1c0f9d2f18da9ecdf701f43a9f5e4f6fd43d9cc41c9159", func := "petersham/petershamlaw04.FaultClashed", spec := "faultClashed", unfollowed := true, recurses := true, plainKeys := false, apart := false, narrowed := true }
def FaultClashedUptoSaid : Prop := faultClashedUptoRow.holds Try.pinned (OpenSpec.upto faultClashedSpec)

/-- 'petershamlaw04.FaultLasting', WHERE WHAT IT READS IS OF BULK AT MOST 1048576: true; the input reads as it did. -/
def faultLastingUptoRow : OpenClaim := { program := "ytlhmeoeamcgcmaa", sum := "e8bbc7639eeeb86cdc1c0f9d2f18da9ecdf701f43a9f5e4f6fd43d9cc41c9159", func := "petersham/petershamlaw04.FaultLasting", spec := "faultLasting", unfollowed := true, recurses := true, plainKeys := false, apart := false, narrowed := true }
def FaultLastingUptoSaid : Prop := faultLastingUptoRow.holds Try.pinned (OpenSpec.upto faultLastingSpec)

/-- 'petershamlaw04.FaultApart', WHERE WHAT IT READS IS OF BULK AT MOST 1048576: true; the input reads as it did. -/
def faultApartUptoRow : OpenClaim := { program := "ytlhmeoeamcgcmaa", sum := "e8bbc7639eeeb86cdc1c0f9d2f18da9ecdf701f43a9f5e4f6fd43d9cc41c9159", func := "petersham/petershamlaw04.FaultApart", spec := "faultApart", unfollowed := true, recurses := true, plainKeys := false, apart := false, narrowed := true }
def FaultApartUptoSaid : Prop := faultApartUptoRow.holds Try.pinned (OpenSpec.upto faultApartSpec)

/-- 'petershamlaw04.FaultMore', WHERE WHAT IT READS IS OF BULK AT MOST 1048576: true; the input reads as it did. -/
def faultMoreUptoRow : OpenClaim := { program := "ytlhmeoeamcgcmaa", sum := "e8bbc7639eeeb86cdc1c0f9d2f18da9ecdf701f43a9f5e4f6fd43d9cc41c9159", func := "petersham/petershamlaw04.FaultMore", spec := "faultMore", unfollowed := true, recurses := true, plainKeys := false, apart := false, narrowed := true }
def FaultMoreUptoSaid : Prop := faultMoreUptoRow.holds Try.pinned (OpenSpec.upto faultMoreSpec)

/-- 'petershamlaw04.FaultLooms', WHERE WHAT IT READS IS OF BULK AT MOST 1048576: true; the input reads as it did. -/
def faultLoomsUptoRow : OpenClaim := { program := "ytlhmeoeamcgcmaa", sum := "e8bbc7639eeeb86cdc1c0f9d2f18da9ecdf701f43a9f5e4f6fd43d9cc41c9159", func := "petersham/petershamlaw04.FaultLooms", spec := "faultLooms", unfollowed := true, recurses := true, plainKeys := false, apart := false, narrowed := true }
def FaultLoomsUptoSaid : Prop := faultLoomsUptoRow.holds Try.pinned (OpenSpec.upto faultLoomsSpec)

/-- 'petershamlaw04.FaultFound', WHERE WHAT IT READS IS OF BULK AT MOST 1048576: true; the input reads as it did. -/
def faultFoundUptoRow : OpenClaim := { program := "ytlhmeoeamcgcmaa", sum := "e8bbc7639eeeb86cdc1c0f9d2f18da9ecdf701f43a9f5e4f6fd43d9cc41c9159", func := "petersham/petershamlaw04.FaultFound", spec := "faultFound", unfollowed := true, recurses := true, plainKeys := false, apart := false, narrowed := true }
def FaultFoundUptoSaid : Prop := faultFoundUptoRow.holds Try.pinned (OpenSpec.upto faultFoundSpec)

end Rows
end Go.Proofs.Ytlhmeoeamcgcmaa
