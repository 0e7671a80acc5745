/-
  No cell of these rows narrows 'for every input' (looked for: loops, veiled, ifaces, maps, wideKeys, modest, calm, conditions, laid).
  DERIVED. THE GIVEN ROWS OF THIS SEAT. 15 by the template 'for every input the law returns true; each argument reads behind the call as it read before'; 0 by the template 'total and deterministic' (their statements: YteanoaejoddnbaaTotals.lean).
  GIVEN WITH THE SEED: the statements are not yours to turn. If you find one false, say at which input.
  Laid BY PROGRAM, IN A SANDBOX (cutbox-rows.mjs): the forced cells as the released guide's own fill.sh prints them over the translation 9ff268f971efd248… (all of the seat's roots in one cut). By AI agents, Wed Nov 11 2026. No macro, syntax, notation, axiom, sorry.
-/
import Derived.Test.YteanoaejoddnbaaChecked
import GoSem.Claim
import GoSem.ClaimJoined
import GoSem.ClaimMapViews
import Derived.JoinedTies
import Derived.KernelRfl
namespace Go.Proofs.Yteanoaejoddnbaa
/- THE CELL 'sum', in the pinned program and in every row, IS THE sha256 OF THE DUMP (.gsa) THAT YteanoaejoddnbaaProg.lean LOADS. Nothing in Lean hashes anything: it is a label: what it is worth is what the hold of that sum in a sandbox is worth. -/
noncomputable def Try.pinned : Pinned := { name := "yteanoaejoddnbaa", sum := "9ff268f971efd248d8780990a02e64018defb137cfa54140da6a45db7cebe95b", checked := Try.checked }
namespace Rows
def none {H : Type} : Left H := { results := [], args := [] }

/-- 'petershamlaw03.LaceTurned': WHATEVER THE INPUT: true; the input reads as it did. -/
def laceTurnedSpec : ChangeSpec := { name := "laceTurned", fn := fun _ => fun
  | [d1, d2] => { results := [.lit (.bool true)], args := [d1, d2] }
  | _ => none }
def laceTurnedRow : OpenClaim := { program := "yteanoaejoddnbaa", sum := "9ff268f971efd248d8780990a02e64018defb137cfa54140da6a45db7cebe95b", func := "petersham/petershamlaw03.LaceTurned", spec := "laceTurned", inPlace := ["slices.overlaps[petersham/lace.Move]", "slices.overlaps[int]"], unfollowed := true, recurses := true, plainKeys := false, apart := false }
def LaceTurnedSaid : Prop := laceTurnedRow.holds Try.pinned (OpenSpec.ofChange laceTurnedSpec)

/-- ITS FALSE NEIGHBOUR: 'it returns false'. Refute it at one input. -/
def laceTurnedWrong : ChangeSpec := { name := "laceTurned", fn := fun _ => fun
  | [d1, d2] => { results := [.lit (.bool false)], args := [d1, d2] }
  | _ => none }
def LaceTurnedWrongFalsely : Prop := laceTurnedRow.holds Try.pinned (OpenSpec.ofChange laceTurnedWrong)

/-- 'petershamlaw03.LaceFinds': WHATEVER THE INPUT: true; the input reads as it did. -/
def laceFindsSpec : ChangeSpec := { name := "laceFinds", fn := fun _ => fun
  | [d1, d2] => { results := [.lit (.bool true)], args := [d1, d2] }
  | _ => none }
def laceFindsRow : OpenClaim := { program := "yteanoaejoddnbaa", sum := "9ff268f971efd248d8780990a02e64018defb137cfa54140da6a45db7cebe95b", func := "petersham/petershamlaw03.LaceFinds", spec := "laceFinds", inPlace := ["slices.overlaps[int]"], unfollowed := true, recurses := true, plainKeys := false, apart := false }
def LaceFindsSaid : Prop := laceFindsRow.holds Try.pinned (OpenSpec.ofChange laceFindsSpec)

/-- ITS FALSE NEIGHBOUR: 'it returns false'. Refute it at one input. -/
def laceFindsWrong : ChangeSpec := { name := "laceFinds", fn := fun _ => fun
  | [d1, d2] => { results := [.lit (.bool false)], args := [d1, d2] }
  | _ => none }
def LaceFindsWrongFalsely : Prop := laceFindsRow.holds Try.pinned (OpenSpec.ofChange laceFindsWrong)

/-- 'petershamlaw03.LaceSeen': WHATEVER THE INPUT: true; the input reads as it did. -/
def laceSeenSpec : ChangeSpec := { name := "laceSeen", fn := fun _ => fun
  | [d1, d2] => { results := [.lit (.bool true)], args := [d1, d2] }
  | _ => none }
def laceSeenRow : OpenClaim := { program := "yteanoaejoddnbaa", sum := "9ff268f971efd248d8780990a02e64018defb137cfa54140da6a45db7cebe95b", func := "petersham/petershamlaw03.LaceSeen", spec := "laceSeen", inPlace := ["slices.overlaps[int]"], unfollowed := true, recurses := true, plainKeys := false, apart := false }
def LaceSeenSaid : Prop := laceSeenRow.holds Try.pinned (OpenSpec.ofChange laceSeenSpec)

/-- ITS FALSE NEIGHBOUR: 'it returns false'. Refute it at one input. -/
def laceSeenWrong : ChangeSpec := { name := "laceSeen", fn := fun _ => fun
  | [d1, d2] => { results := [.lit (.bool false)], args := [d1, d2] }
  | _ => none }
def LaceSeenWrongFalsely : Prop := laceSeenRow.holds Try.pinned (OpenSpec.ofChange laceSeenWrong)

/-- 'petershamlaw03.LaceGaps': WHATEVER THE INPUT: true; the input reads as it did. -/
def laceGapsSpec : ChangeSpec := { name := "laceGaps", fn := fun _ => fun
  | [d1, d2] => { results := [.lit (.bool true)], args := [d1, d2] }
  | _ => none }
def laceGapsRow : OpenClaim := { program := "yteanoaejoddnbaa", sum := "9ff268f971efd248d8780990a02e64018defb137cfa54140da6a45db7cebe95b", func := "petersham/petershamlaw03.LaceGaps", spec := "laceGaps", inPlace := ["slices.overlaps[int]"], unfollowed := true, recurses := true, plainKeys := false, apart := false }
def LaceGapsSaid : Prop := laceGapsRow.holds Try.pinned (OpenSpec.ofChange laceGapsSpec)

/-- ITS FALSE NEIGHBOUR: 'it returns false'. Refute it at one input. -/
def laceGapsWrong : ChangeSpec := { name := "laceGaps", fn := fun _ => fun
  | [d1, d2] => { results := [.lit (.bool false)], args := [d1, d2] }
  | _ => none }
def LaceGapsWrongFalsely : Prop := laceGapsRow.holds Try.pinned (OpenSpec.ofChange laceGapsWrong)

/-- 'petershamlaw03.LaceChecks': WHATEVER THE INPUT: true; the input reads as it did. -/
def laceChecksSpec : ChangeSpec := { name := "laceChecks", fn := fun _ => fun
  | [d1, d2, d3, d4, d5] => { results := [.lit (.bool true)], args := [d1, d2, d3, d4, d5] }
  | _ => none }
def laceChecksRow : OpenClaim := { program := "yteanoaejoddnbaa", sum := "9ff268f971efd248d8780990a02e64018defb137cfa54140da6a45db7cebe95b", func := "petersham/petershamlaw03.LaceChecks", spec := "laceChecks", inPlace := ["slices.overlaps[int]"], unfollowed := true, recurses := true, plainKeys := false, apart := false }
def LaceChecksSaid : Prop := laceChecksRow.holds Try.pinned (OpenSpec.ofChange laceChecksSpec)

/-- ITS FALSE NEIGHBOUR: 'it returns false'. Refute it at one input. -/
def laceChecksWrong : ChangeSpec := { name := "laceChecks", fn := fun _ => fun
  | [d1, d2, d3, d4, d5] => { results := [.lit (.bool false)], args := [d1, d2, d3, d4, d5] }
  | _ => none }
def LaceChecksWrongFalsely : Prop := laceChecksRow.holds Try.pinned (OpenSpec.ofChange laceChecksWrong)

/-- 'petershamlaw03.LaceAsks': WHATEVER THE INPUT: true; the input reads as it did. -/
def laceAsksSpec : ChangeSpec := { name := "laceAsks", fn := fun _ => fun
  | [d] => { results := [.lit (.bool true)], args := [d] }
  | _ => none }
def laceAsksRow : OpenClaim := { program := "yteanoaejoddnbaa", sum := "9ff268f971efd248d8780990a02e64018defb137cfa54140da6a45db7cebe95b", func := "petersham/petershamlaw03.LaceAsks", spec := "laceAsks", inPlace := ["slices.overlaps[int]"], unfollowed := true, recurses := true, plainKeys := false, apart := false }
def LaceAsksSaid : Prop := laceAsksRow.holds Try.pinned (OpenSpec.ofChange laceAsksSpec)

/-- ITS FALSE NEIGHBOUR: 'it returns false'. Refute it at one input. -/
def laceAsksWrong : ChangeSpec := { name := "laceAsks", fn := fun _ => fun
  | [d] => { results := [.lit (.bool false)], args := [d] }
  | _ => none }
def LaceAsksWrongFalsely : Prop := laceAsksRow.holds Try.pinned (OpenSpec.ofChange laceAsksWrong)

/-- 'petershamlaw03.LaceNamed': WHATEVER THE INPUT: true; the input reads as it did. -/
def laceNamedSpec : ChangeSpec := { name := "laceNamed", fn := fun _ => fun
  | [d1, d2] => { results := [.lit (.bool true)], args := [d1, d2] }
  | _ => none }
def laceNamedRow : OpenClaim := { program := "yteanoaejoddnbaa", sum := "9ff268f971efd248d8780990a02e64018defb137cfa54140da6a45db7cebe95b", func := "petersham/petershamlaw03.LaceNamed", spec := "laceNamed", inPlace := ["slices.overlaps[int]"], unfollowed := true, recurses := true, plainKeys := false, apart := false }
def LaceNamedSaid : Prop := laceNamedRow.holds Try.pinned (OpenSpec.ofChange laceNamedSpec)

/-- ITS FALSE NEIGHBOUR: 'it returns false'. Refute it at one input. -/
def laceNamedWrong : ChangeSpec := { name := "laceNamed", fn := fun _ => fun
  | [d1, d2] => { results := [.lit (.bool false)], args := [d1, d2] }
  | _ => none }
def LaceNamedWrongFalsely : Prop := laceNamedRow.holds Try.pinned (OpenSpec.ofChange laceNamedWrong)

/-- 'petershamlaw03.LaceDecided': WHATEVER THE INPUT: true; the input reads as it did. -/
def laceDecidedSpec : ChangeSpec := { name := "laceDecided", fn := fun _ => fun
  | [d] => { results := [.lit (.bool true)], args := [d] }
  | _ => none }
def laceDecidedRow : OpenClaim := { program := "yteanoaejoddnbaa", sum := "9ff268f971efd248d8780990a02e64018defb137cfa54140da6a45db7cebe95b", func := "petersham/petershamlaw03.LaceDecided", spec := "laceDecided", inPlace := ["slices.overlaps[int]"], unfollowed := true, recurses := true, plainKeys := false, apart := false }
def LaceDecidedSaid : Prop := laceDecidedRow.holds Try.pinned (OpenSpec.ofChange laceDecidedSpec)

/-- ITS FALSE NEIGHBOUR: 'it returns false'. Refute it at one input. -/
def laceDecidedWrong : ChangeSpec := { name := "laceDecided", fn := fun _ => fun
  | [d] => { results := [.lit (.bool false)], args := [d] }
  | _ => none }
def LaceDecidedWrongFalsely : Prop := laceDecidedRow.holds Try.pinned (OpenSpec.ofChange laceDecidedWrong)

/-- 'petershamlaw03.LaceRings': WHATEVER THE INPUT: true; the input reads as it did. -/
def laceRingsSpec : ChangeSpec := { name := "laceRings", fn := fun _ => fun
  | [d1, d2, d3] => { results := [.lit (.bool true)], args := [d1, d2, d3] }
  | _ => none }
def laceRingsRow : OpenClaim := { program := "yteanoaejoddnbaa", sum := "9ff268f971efd248d8780990a02e64018defb137cfa54140da6a45db7cebe95b", func := "petersham/petershamlaw03.LaceRings", spec := "laceRings", inPlace := ["slices.overlaps[int]"], unfollowed := true, recurses := true, plainKeys := false, apart := false }
def LaceRingsSaid : Prop := laceRingsRow.holds Try.pinned (OpenSpec.ofChange laceRingsSpec)

/-- ITS FALSE NEIGHBOUR: 'it returns false'. Refute it at one input. -/
def laceRingsWrong : ChangeSpec := { name := "laceRings", fn := fun _ => fun
  | [d1, d2, d3] => { results := [.lit (.bool false)], args := [d1, d2, d3] }
  | _ => none }
def LaceRingsWrongFalsely : Prop := laceRingsRow.holds Try.pinned (OpenSpec.ofChange laceRingsWrong)

/-- 'petershamlaw03.LaceRisen': WHATEVER THE INPUT: true; the input reads as it did. -/
def laceRisenSpec : ChangeSpec := { name := "laceRisen", fn := fun _ => fun
  | [d1, d2] => { results := [.lit (.bool true)], args := [d1, d2] }
  | _ => none }
def laceRisenRow : OpenClaim := { program := "yteanoaejoddnbaa", sum := "9ff268f971efd248d8780990a02e64018defb137cfa54140da6a45db7cebe95b", func := "petersham/petershamlaw03.LaceRisen", spec := "laceRisen", inPlace := ["slices.overlaps[int]"], unfollowed := true, recurses := true, plainKeys := false, apart := false }
def LaceRisenSaid : Prop := laceRisenRow.holds Try.pinned (OpenSpec.ofChange laceRisenSpec)

/-- ITS FALSE NEIGHBOUR: 'it returns false'. Refute it at one input. -/
def laceRisenWrong : ChangeSpec := { name := "laceRisen", fn := fun _ => fun
  | [d1, d2] => { results := [.lit (.bool false)], args := [d1, d2] }
  | _ => none }
def LaceRisenWrongFalsely : Prop := laceRisenRow.holds Try.pinned (OpenSpec.ofChange laceRisenWrong)

/-- 'petershamlaw03.LaceMends': WHATEVER THE INPUT: true; the input reads as it did. -/
def laceMendsSpec : ChangeSpec := { name := "laceMends", fn := fun _ => fun
  | [d1, d2, d3] => { results := [.lit (.bool true)], args := [d1, d2, d3] }
  | _ => none }
def laceMendsRow : OpenClaim := { program := "yteanoaejoddnbaa", sum := "9ff268f971efd248d8780990a02e64018defb137cfa54140da6a45db7cebe95b", func := "petersham/petershamlaw03.LaceMends", spec := "laceMends", inPlace := ["slices.overlaps[int]"], unfollowed := true, recurses := true, plainKeys := false, apart := false }
def LaceMendsSaid : Prop := laceMendsRow.holds Try.pinned (OpenSpec.ofChange laceMendsSpec)

/-- ITS FALSE NEIGHBOUR: 'it returns false'. Refute it at one input. -/
def laceMendsWrong : ChangeSpec := { name := "laceMends", fn := fun _ => fun
  | [d1, d2, d3] => { results := [.lit (.bool false)], args := [d1, d2, d3] }
  | _ => none }
def LaceMendsWrongFalsely : Prop := laceMendsRow.holds Try.pinned (OpenSpec.ofChange laceMendsWrong)

/-- 'petershamlaw03.LaceFew': WHATEVER THE INPUT: true; the input reads as it did. -/
def laceFewSpec : ChangeSpec := { name := "laceFew", fn := fun _ => fun
  | [d1, d2] => { results := [.lit (.bool true)], args := [d1, d2] }
  | _ => none }
def laceFewRow : OpenClaim := { program := "yteanoaejoddnbaa", sum := "9ff268f971efd248d8780990a02e64018defb137cfa54140da6a45db7cebe95b", func := "petersham/petershamlaw03.LaceFew", spec := "laceFew", inPlace := ["slices.overlaps[int]"], unfollowed := true, recurses := true, plainKeys := false, apart := false }
def LaceFewSaid : Prop := laceFewRow.holds Try.pinned (OpenSpec.ofChange laceFewSpec)

/-- ITS FALSE NEIGHBOUR: 'it returns false'. Refute it at one input. -/
def laceFewWrong : ChangeSpec := { name := "laceFew", fn := fun _ => fun
  | [d1, d2] => { results := [.lit (.bool false)], args := [d1, d2] }
  | _ => none }
def LaceFewWrongFalsely : Prop := laceFewRow.holds Try.pinned (OpenSpec.ofChange laceFewWrong)

/-- 'petershamlaw03.LaceFound': WHATEVER THE INPUT: true; the input reads as it did. -/
def laceFoundSpec : ChangeSpec := { name := "laceFound", fn := fun _ => fun
  | [d1, d2] => { results := [.lit (.bool true)], args := [d1, d2] }
  | _ => none }
def laceFoundRow : OpenClaim := { program := "yteanoaejoddnbaa", sum := "9ff268f971efd248d8780990a02e64018defb137cfa54140da6a45db7cebe95b", func := "petersham/petershamlaw03.LaceFound", spec := "laceFound", inPlace := ["slices.overlaps[int]"], unfollowed := true, recurses := true, plainKeys := false, apart := false }
def LaceFoundSaid : Prop := laceFoundRow.holds Try.pinned (OpenSpec.ofChange laceFoundSpec)

/-- ITS FALSE NEIGHBOUR: 'it returns false'. Refute it at one input. -/
def laceFoundWrong : ChangeSpec := { name := "laceFound", fn := fun _ => fun
  | [d1, d2] => { results := [.lit (.bool false)], args := [d1, d2] }
  | _ => none }
def LaceFoundWrongFalsely : Prop := laceFoundRow.holds Try.pinned (OpenSpec.ofChange laceFoundWrong)

/-- 'petershamlaw03.LaceCarded': WHATEVER THE INPUT: true; the input reads as it did. -/
def laceCardedSpec : ChangeSpec := { name := "laceCarded", fn := fun _ => fun
  | [d1, d2] => { results := [.lit (.bool true)], args := [d1, d2] }
  | _ => none }
def laceCardedRow : OpenClaim := { program := "yteanoaejoddnbaa", sum := "9ff268f971efd248d8780990a02e64018defb137cfa54140da6a45db7cebe95b", func := "petersham/petershamlaw03.LaceCarded", spec := "laceCarded", inPlace := ["slices.overlaps[int]"], unfollowed := true, recurses := true, plainKeys := false, apart := false }
def LaceCardedSaid : Prop := laceCardedRow.holds Try.pinned (OpenSpec.ofChange laceCardedSpec)

/-- ITS FALSE NEIGHBOUR: 'it returns false'. Refute it at one input. -/
def laceCardedWrong : ChangeSpec := { name := "laceCarded", fn := fun _ => fun
  | [d1, d2] => { results := [.lit (.bool false)], args := [d1, d2] }
  | _ => none }
def LaceCardedWrongFalsely : Prop := laceCardedRow.holds Try.pinned (OpenSpec.ofChange laceCardedWrong)

/-- 'petershamlaw03.LaceGaped': WHATEVER THE INPUT: true; the input reads as it did. -/
def laceGapedSpec : ChangeSpec := { name := "laceGaped", fn := fun _ => fun
  | [d1, d2] => { results := [.lit (.bool true)], args := [d1, d2] }
  | _ => none }
def laceGapedRow : OpenClaim := { program := "yteanoaejoddnbaa", sum := "9ff268f971efd248d8780990a02e64018defb137cfa54140da6a45db7cebe95b", func := "petersham/petershamlaw03.LaceGaped", spec := "laceGaped", inPlace := ["slices.overlaps[int]"], unfollowed := true, recurses := true, plainKeys := false, apart := false }
def LaceGapedSaid : Prop := laceGapedRow.holds Try.pinned (OpenSpec.ofChange laceGapedSpec)

/-- ITS FALSE NEIGHBOUR: 'it returns false'. Refute it at one input. -/
def laceGapedWrong : ChangeSpec := { name := "laceGaped", fn := fun _ => fun
  | [d1, d2] => { results := [.lit (.bool false)], args := [d1, d2] }
  | _ => none }
def LaceGapedWrongFalsely : Prop := laceGapedRow.holds Try.pinned (OpenSpec.ofChange laceGapedWrong)

/- THE SECOND FORM. 'bulk': how many values and letters a reading holds, each counted each time it is reached (what is shared counts as often as it is met; a slice's spare places count too). A statement '..UptoSaid' is the law's where the arguments, and the package variables that the reading takes, are together of bulk at most 1048576: NARROWER than '..Said'. Prove '..Said' where nothing that the law and all that it calls make is longer than what came in: it says more and counts as full. Else prove '..UptoSaid'. A law counts once. -/
mutual
def uptoBulk {H : Type} : DataW H → Nat
  | .lit (.string bytes) => bytes.length + 1
  | .lit _ => 1
  | .nil => 1
  | .ptr d => uptoBulk d + 1
  | .slice elems spare => uptoBulkAll elems + uptoBulkAll spare + 1
  | .agg parts => uptoBulkAll parts + 1
  | .iface _ d => uptoBulk d + 1
  | .map entries => uptoBulkEntries entries + 1
  | .held _ => 1
def uptoBulkAll {H : Type} : List (DataW H) → Nat
  | [] => 0
  | d :: r => uptoBulk d + uptoBulkAll r
def uptoBulkEntries {H : Type} : List (Lit × DataW H) → Nat
  | [] => 0
  | x :: r => uptoBulkEntry x + uptoBulkEntries r
def uptoBulkEntry {H : Type} : Lit × DataW H → Nat
  | (.string bytes, d) => bytes.length + uptoBulk d + 1
  | (_, d) => uptoBulk d + 1
 end
def uptoSmall : (H : Type) → List (DataW H) → Bool := fun _ ds => decide (uptoBulkAll ds ≤ 1048576)
def OpenSpec.upto (s : _root_.Go.ChangeSpec) : _root_.Go.OpenSpec := { _root_.Go.OpenSpec.ofChange s with cond := some uptoSmall }

/-- 'petershamlaw03.LaceTurned', WHERE WHAT IT READS IS OF BULK AT MOST 1048576: true; the input reads as it did. -/
def laceTurnedUptoRow : OpenClaim := { program := "yteanoaejoddnbaa", sum := "9ff268f971efd248d8780990a02e64018defb137cfa54140da6a45db7cebe95b", func := "petersham/petershamlaw03.LaceTurned", spec := "laceTurned", inPlace := ["slices.overlaps[petersham/lace.Move]", "slices.overlaps[int]"], unfollowed := true, recurses := true, plainKeys := false, apart := false, narrowed := true }
def LaceTurnedUptoSaid : Prop := laceTurnedUptoRow.holds Try.pinned (OpenSpec.upto laceTurnedSpec)

/-- 'petershamlaw03.LaceFinds', WHERE WHAT IT READS IS OF BULK AT MOST 1048576: true; the input reads as it did. -/
def laceFindsUptoRow : OpenClaim := { program := "yteanoaejoddnbaa", sum := "9ff268f971efd248d8780990a02e64018defb137cfa54140da6a45db7cebe95b", func := "petersham/petershamlaw03.LaceFinds", spec := "laceFinds", inPlace := ["slices.overlaps[int]"], unfollowed := true, recurses := true, plainKeys := false, apart := false, narrowed := true }
def LaceFindsUptoSaid : Prop := laceFindsUptoRow.holds Try.pinned (OpenSpec.upto laceFindsSpec)

/-- 'petershamlaw03.LaceSeen', WHERE WHAT IT READS IS OF BULK AT MOST 1048576: true; the input reads as it did. -/
def laceSeenUptoRow : OpenClaim := { program := "yteanoaejoddnbaa", sum := "9ff268f971efd248d8780990a02e64018defb137cfa54140da6a45db7cebe95b", func := "petersham/petershamlaw03.LaceSeen", spec := "laceSeen", inPlace := ["slices.overlaps[int]"], unfollowed := true, recurses := true, plainKeys := false, apart := false, narrowed := true }
def LaceSeenUptoSaid : Prop := laceSeenUptoRow.holds Try.pinned (OpenSpec.upto laceSeenSpec)

/-- 'petershamlaw03.LaceGaps', WHERE WHAT IT READS IS OF BULK AT MOST 1048576: true; the input reads as it did. -/
def laceGapsUptoRow : OpenClaim := { program := "yteanoaejoddnbaa", sum := "9ff268f971efd248d8780990a02e64018defb137cfa54140da6a45db7cebe95b", func := "petersham/petershamlaw03.LaceGaps", spec := "laceGaps", inPlace := ["slices.overlaps[int]"], unfollowed := true, recurses := true, plainKeys := false, apart := false, narrowed := true }
def LaceGapsUptoSaid : Prop := laceGapsUptoRow.holds Try.pinned (OpenSpec.upto laceGapsSpec)

/-- 'petershamlaw03.LaceChecks', WHERE WHAT IT READS IS OF BULK AT MOST 1048576: true; the input reads as it did. -/
def laceChecksUptoRow : OpenClaim := { program := "yteanoaejoddnbaa", sum := "9ff268f971efd248d8780990a02e64018defb137cfa54140da6a45db7cebe95b", func := "petersham/petershamlaw03.LaceChecks", spec := "laceChecks", inPlace := ["slices.overlaps[int]"], unfollowed := true, recurses := true, plainKeys := false, apart := false, narrowed := true }
def LaceChecksUptoSaid : Prop := laceChecksUptoRow.holds Try.pinned (OpenSpec.upto laceChecksSpec)

/-- 'petershamlaw03.LaceAsks', WHERE WHAT IT READS IS OF BULK AT MOST 1048576: true; the input reads as it did. -/
def laceAsksUptoRow : OpenClaim := { program := "yteanoaejoddnbaa", sum := "9ff268f971efd248d8780990a02e64018defb137cfa54140da6a45db7cebe95b", func := "petersham/petershamlaw03.LaceAsks", spec := "laceAsks", inPlace := ["slices.overlaps[int]"], unfollowed := true, recurses := true, plainKeys := false, apart := false, narrowed := true }
def LaceAsksUptoSaid : Prop := laceAsksUptoRow.holds Try.pinned (OpenSpec.upto laceAsksSpec)

/-- 'petershamlaw03.LaceNamed', WHERE WHAT IT READS IS OF BULK AT MOST 1048576: true; the input reads as it did. -/
def laceNamedUptoRow : OpenClaim := { program := "yteanoaejoddnbaa", sum := "9ff268f971efd248d8780990a02e64018defb137cfa54140da6a45db7cebe95b", func := "petersham/petershamlaw03.LaceNamed", spec := "laceNamed", inPlace := ["slices.overlaps[int]"], unfollowed := true, recurses := true, plainKeys := false, apart := false, narrowed := true }
def LaceNamedUptoSaid : Prop := laceNamedUptoRow.holds Try.pinned (OpenSpec.upto laceNamedSpec)

/-- 'petershamlaw03.LaceDecided', WHERE WHAT IT READS IS OF BULK AT MOST 1048576: true; the input reads as it did. -/
def laceDecidedUptoRow : OpenClaim := { program := "yteanoaejoddnbaa", sum := "9ff268f971efd248d8780990a02e64018defb137cfa54140da6a45db7cebe95b", func := "petersham/petershamlaw03.LaceDecided", spec := "laceDecided", inPlace := ["slices.overlaps[int]"], unfollowed := true, recurses := true, plainKeys := false, apart := false, narrowed := true }
def LaceDecidedUptoSaid : Prop := laceDecidedUptoRow.holds Try.pinned (OpenSpec.upto laceDecidedSpec)

/-- 'petershamlaw03.LaceRings', WHERE WHAT IT READS IS OF BULK AT MOST 1048576: true; the input reads as it did. -/
def laceRingsUptoRow : OpenClaim := { program := "yteanoaejoddnbaa", sum := "9ff268f971efd248d8780990a02e64018defb137cfa54140da6a45db7cebe95b", func := "petersham/petershamlaw03.LaceRings", spec := "laceRings", inPlace := ["slices.overlaps[int]"], unfollowed := true, recurses := true, plainKeys := false, apart := false, narrowed := true }
def LaceRingsUptoSaid : Prop := laceRingsUptoRow.holds Try.pinned (OpenSpec.upto laceRingsSpec)

/-- 'petershamlaw03.LaceRisen', WHERE WHAT IT READS IS OF BULK AT MOST 1048576: true; the input reads as it did. -/
def laceRisenUptoRow : OpenClaim := { program := "yteanoaejoddnbaa", sum := "9ff268f971efd248d8780990a02e64018defb137cfa54140da6a45db7cebe95b", func := "petersham/petershamlaw03.LaceRisen", spec := "laceRisen", inPlace := ["slices.overlaps[int]"], unfollowed := true, recurses := true, plainKeys := false, apart := false, narrowed := true }
def LaceRisenUptoSaid : Prop := laceRisenUptoRow.holds Try.pinned (OpenSpec.upto laceRisenSpec)

/-- 'petershamlaw03.LaceMends', WHERE WHAT IT READS IS OF BULK AT MOST 1048576: true; the input reads as it did. -/
def laceMendsUptoRow : OpenClaim := { program := "yteanoaejoddnbaa", sum := "9ff268f971efd248d8780990a02e64018defb137cfa54140da6a45db7cebe95b", func := "petersham/petershamlaw03.LaceMends", spec := "laceMends", inPlace := ["slices.overlaps[int]"], unfollowed := true, recurses := true, plainKeys := false, apart := false, narrowed := true }
def LaceMendsUptoSaid : Prop := laceMendsUptoRow.holds Try.pinned (OpenSpec.upto laceMendsSpec)

/-- 'petershamlaw03.LaceFew', WHERE WHAT IT READS IS OF BULK AT MOST 1048576: true; the input reads as it did. -/
def laceFewUptoRow : OpenClaim := { program := "yteanoaejoddnbaa", sum := "9ff268f971efd248d8780990a02e64018defb137cfa54140da6a45db7cebe95b", func := "petersham/petershamlaw03.LaceFew", spec := "laceFew", inPlace := ["slices.overlaps[int]"], unfollowed := true, recurses := true, plainKeys := false, apart := false, narrowed := true }
def LaceFewUptoSaid : Prop := laceFewUptoRow.holds Try.pinned (OpenSpec.upto laceFewSpec)

/-- 'petershamlaw03.LaceFound', WHERE WHAT IT READS IS OF BULK AT MOST 1048576: true; the input reads as it did. -/
def laceFoundUptoRow : OpenClaim := { program := "yteanoaejoddnbaa", sum := "9ff268f971efd248d8780990a02e64018defb137cfa54140da6a45db7cebe95b", func := "petersham/petershamlaw03.LaceFound", spec := "laceFound", inPlace := ["slices.overlaps[int]"], unfollowed := true, recurses := true, plainKeys := false, apart := false, narrowed := true }
def LaceFoundUptoSaid : Prop := laceFoundUptoRow.holds Try.pinned (OpenSpec.upto laceFoundSpec)

/-- 'petershamlaw03.LaceCarded', WHERE WHAT IT READS IS OF BULK AT MOST 1048576: true; the input reads as it did. -/
def laceCardedUptoRow : OpenClaim := { program := "yteanoaejoddnbaa", sum := "9ff268f971efd248d8780990a02e64018defb137cfa54140da6a45db7cebe95b", func := "petersham/petershamlaw03.LaceCarded", spec := "laceCarded", inPlace := ["slices.overlaps[int]"], unfollowed := true, recurses := true, plainKeys := false, apart := false, narrowed := true }
def LaceCardedUptoSaid : Prop := laceCardedUptoRow.holds Try.pinned (OpenSpec.upto laceCardedSpec)

/-- 'petershamlaw03.LaceGaped', WHERE WHAT IT READS IS OF BULK AT MOST 1048576: true; the input reads as it did. -/
def laceGapedUptoRow : OpenClaim := { program := "yteanoaejoddnbaa", sum := "9ff268f971efd248d8780990a02e64018defb137cfa54140da6a45db7cebe95b", func := "petersham/petershamlaw03.LaceGaped", spec := "laceGaped", inPlace := ["slices.overlaps[int]"], unfollowed := true, recurses := true, plainKeys := false, apart := false, narrowed := true }
def LaceGapedUptoSaid : Prop := laceGapedUptoRow.holds Try.pinned (OpenSpec.upto laceGapedSpec)

end Rows
end Go.Proofs.Yteanoaejoddnbaa
