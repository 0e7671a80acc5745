/-
  No cell of these rows narrows 'for every input' (looked for: loops, veiled, ifaces, maps, wideKeys, modest, calm, conditions, laid).
  DERIVED. THE GIVEN ROWS OF THIS SEAT. 16 by the template 'for every input the law returns true; each argument reads behind the call as it read before'; 0 by the template 'total and deterministic' (their statements: YtppkmjfplhenmaaTotals.lean).
  GIVEN WITH THE SEED: the statements are not yours to turn. If you find one false, say at which input.
  Laid BY PROGRAM, IN A SANDBOX (cutbox-rows.mjs): the forced cells as the released guide's own fill.sh prints them over the translation bdd653fe61266239… (all of the seat's roots in one cut). By AI agents, Wed Nov 11 2026. No macro, syntax, notation, axiom, sorry.
-/
import Derived.Test.YtppkmjfplhenmaaChecked
import GoSem.Claim
import GoSem.ClaimJoined
import GoSem.ClaimMapViews
import Derived.JoinedTies
import Derived.KernelRfl
namespace Go.Proofs.Ytppkmjfplhenmaa
/- THE CELL 'sum', in the pinned program and in every row, IS THE sha256 OF THE DUMP (.gsa) THAT YtppkmjfplhenmaaProg.lean LOADS. Nothing in Lean hashes anything: it is a label: what it is worth is what the hold of that sum in a sandbox is worth. -/
noncomputable def Try.pinned : Pinned := { name := "ytppkmjfplhenmaa", sum := "bdd653fe61266239ca557f1c1b1e96925475375f67a4671e389f4eeed9806596", checked := Try.checked }
namespace Rows
def none {H : Type} : Left H := { results := [], args := [] }

/-- 'petershamlaw02.CardChains': WHATEVER THE INPUT: true; the input reads as it did. -/
def cardChainsSpec : ChangeSpec := { name := "cardChains", fn := fun _ => fun
  | [d1, d2, d3] => { results := [.lit (.bool true)], args := [d1, d2, d3] }
  | _ => none }
def cardChainsRow : OpenClaim := { program := "ytppkmjfplhenmaa", sum := "bdd653fe61266239ca557f1c1b1e96925475375f67a4671e389f4eeed9806596", func := "petersham/petershamlaw02.CardChains", spec := "cardChains", unfollowed := true, recurses := true, apart := false }
def CardChainsSaid : Prop := cardChainsRow.holds Try.pinned (OpenSpec.ofChange cardChainsSpec)

/-- ITS FALSE NEIGHBOUR: 'it returns false'. Refute it at one input. -/
def cardChainsWrong : ChangeSpec := { name := "cardChains", fn := fun _ => fun
  | [d1, d2, d3] => { results := [.lit (.bool false)], args := [d1, d2, d3] }
  | _ => none }
def CardChainsWrongFalsely : Prop := cardChainsRow.holds Try.pinned (OpenSpec.ofChange cardChainsWrong)

/-- 'petershamlaw02.CardOnly': WHATEVER THE INPUT: true; the input reads as it did. -/
def cardOnlySpec : ChangeSpec := { name := "cardOnly", fn := fun _ => fun
  | [d] => { results := [.lit (.bool true)], args := [d] }
  | _ => none }
def cardOnlyRow : OpenClaim := { program := "ytppkmjfplhenmaa", sum := "bdd653fe61266239ca557f1c1b1e96925475375f67a4671e389f4eeed9806596", func := "petersham/petershamlaw02.CardOnly", spec := "cardOnly", unfollowed := true, recurses := true, apart := false }
def CardOnlySaid : Prop := cardOnlyRow.holds Try.pinned (OpenSpec.ofChange cardOnlySpec)

/-- ITS FALSE NEIGHBOUR: 'it returns false'. Refute it at one input. -/
def cardOnlyWrong : ChangeSpec := { name := "cardOnly", fn := fun _ => fun
  | [d] => { results := [.lit (.bool false)], args := [d] }
  | _ => none }
def CardOnlyWrongFalsely : Prop := cardOnlyRow.holds Try.pinned (OpenSpec.ofChange cardOnlyWrong)

/-- 'petershamlaw02.CardMoved': WHATEVER THE INPUT: true; the input reads as it did. -/
def cardMovedSpec : ChangeSpec := { name := "cardMoved", fn := fun _ => fun
  | [d1, d2] => { results := [.lit (.bool true)], args := [d1, d2] }
  | _ => none }
def cardMovedRow : OpenClaim := { program := "ytppkmjfplhenmaa", sum := "bdd653fe61266239ca557f1c1b1e96925475375f67a4671e389f4eeed9806596", func := "petersham/petershamlaw02.CardMoved", spec := "cardMoved", unfollowed := true, recurses := true, apart := false }
def CardMovedSaid : Prop := cardMovedRow.holds Try.pinned (OpenSpec.ofChange cardMovedSpec)

/-- ITS FALSE NEIGHBOUR: 'it returns false'. Refute it at one input. -/
def cardMovedWrong : ChangeSpec := { name := "cardMoved", fn := fun _ => fun
  | [d1, d2] => { results := [.lit (.bool false)], args := [d1, d2] }
  | _ => none }
def CardMovedWrongFalsely : Prop := cardMovedRow.holds Try.pinned (OpenSpec.ofChange cardMovedWrong)

/-- 'petershamlaw02.CardFloats': WHATEVER THE INPUT: true; the input reads as it did. -/
def cardFloatsSpec : ChangeSpec := { name := "cardFloats", fn := fun _ => fun
  | [d1, d2, d3] => { results := [.lit (.bool true)], args := [d1, d2, d3] }
  | _ => none }
def cardFloatsRow : OpenClaim := { program := "ytppkmjfplhenmaa", sum := "bdd653fe61266239ca557f1c1b1e96925475375f67a4671e389f4eeed9806596", func := "petersham/petershamlaw02.CardFloats", spec := "cardFloats", unfollowed := true, recurses := true, apart := false }
def CardFloatsSaid : Prop := cardFloatsRow.holds Try.pinned (OpenSpec.ofChange cardFloatsSpec)

/-- ITS FALSE NEIGHBOUR: 'it returns false'. Refute it at one input. -/
def cardFloatsWrong : ChangeSpec := { name := "cardFloats", fn := fun _ => fun
  | [d1, d2, d3] => { results := [.lit (.bool false)], args := [d1, d2, d3] }
  | _ => none }
def CardFloatsWrongFalsely : Prop := cardFloatsRow.holds Try.pinned (OpenSpec.ofChange cardFloatsWrong)

/-- 'petershamlaw02.CardRepeated': WHATEVER THE INPUT: true; the input reads as it did. -/
def cardRepeatedSpec : ChangeSpec := { name := "cardRepeated", fn := fun _ => fun
  | [d] => { results := [.lit (.bool true)], args := [d] }
  | _ => none }
def cardRepeatedRow : OpenClaim := { program := "ytppkmjfplhenmaa", sum := "bdd653fe61266239ca557f1c1b1e96925475375f67a4671e389f4eeed9806596", func := "petersham/petershamlaw02.CardRepeated", spec := "cardRepeated", unfollowed := true, recurses := true, apart := false }
def CardRepeatedSaid : Prop := cardRepeatedRow.holds Try.pinned (OpenSpec.ofChange cardRepeatedSpec)

/-- ITS FALSE NEIGHBOUR: 'it returns false'. Refute it at one input. -/
def cardRepeatedWrong : ChangeSpec := { name := "cardRepeated", fn := fun _ => fun
  | [d] => { results := [.lit (.bool false)], args := [d] }
  | _ => none }
def CardRepeatedWrongFalsely : Prop := cardRepeatedRow.holds Try.pinned (OpenSpec.ofChange cardRepeatedWrong)

/-- 'petershamlaw02.CardPlans': WHATEVER THE INPUT: true; the input reads as it did. -/
def cardPlansSpec : ChangeSpec := { name := "cardPlans", fn := fun _ => fun
  | [d1, d2, d3, d4, d5, d6] => { results := [.lit (.bool true)], args := [d1, d2, d3, d4, d5, d6] }
  | _ => none }
def cardPlansRow : OpenClaim := { program := "ytppkmjfplhenmaa", sum := "bdd653fe61266239ca557f1c1b1e96925475375f67a4671e389f4eeed9806596", func := "petersham/petershamlaw02.CardPlans", spec := "cardPlans", unfollowed := true, recurses := true, apart := false }
def CardPlansSaid : Prop := cardPlansRow.holds Try.pinned (OpenSpec.ofChange cardPlansSpec)

/-- ITS FALSE NEIGHBOUR: 'it returns false'. Refute it at one input. -/
def cardPlansWrong : ChangeSpec := { name := "cardPlans", fn := fun _ => fun
  | [d1, d2, d3, d4, d5, d6] => { results := [.lit (.bool false)], args := [d1, d2, d3, d4, d5, d6] }
  | _ => none }
def CardPlansWrongFalsely : Prop := cardPlansRow.holds Try.pinned (OpenSpec.ofChange cardPlansWrong)

/-- 'petershamlaw02.CardRibbons': WHATEVER THE INPUT: true; the input reads as it did. -/
def cardRibbonsSpec : ChangeSpec := { name := "cardRibbons", fn := fun _ => fun
  | [d1, d2] => { results := [.lit (.bool true)], args := [d1, d2] }
  | _ => none }
def cardRibbonsRow : OpenClaim := { program := "ytppkmjfplhenmaa", sum := "bdd653fe61266239ca557f1c1b1e96925475375f67a4671e389f4eeed9806596", func := "petersham/petershamlaw02.CardRibbons", spec := "cardRibbons", unfollowed := true, recurses := true, apart := false }
def CardRibbonsSaid : Prop := cardRibbonsRow.holds Try.pinned (OpenSpec.ofChange cardRibbonsSpec)

/-- ITS FALSE NEIGHBOUR: 'it returns false'. Refute it at one input. -/
def cardRibbonsWrong : ChangeSpec := { name := "cardRibbons", fn := fun _ => fun
  | [d1, d2] => { results := [.lit (.bool false)], args := [d1, d2] }
  | _ => none }
def CardRibbonsWrongFalsely : Prop := cardRibbonsRow.holds Try.pinned (OpenSpec.ofChange cardRibbonsWrong)

/-- 'petershamlaw02.CardShared': WHATEVER THE INPUT: true; the input reads as it did. -/
def cardSharedSpec : ChangeSpec := { name := "cardShared", fn := fun _ => fun
  | [d1, d2, d3] => { results := [.lit (.bool true)], args := [d1, d2, d3] }
  | _ => none }
def cardSharedRow : OpenClaim := { program := "ytppkmjfplhenmaa", sum := "bdd653fe61266239ca557f1c1b1e96925475375f67a4671e389f4eeed9806596", func := "petersham/petershamlaw02.CardShared", spec := "cardShared", unfollowed := true, recurses := true, apart := false }
def CardSharedSaid : Prop := cardSharedRow.holds Try.pinned (OpenSpec.ofChange cardSharedSpec)

/-- ITS FALSE NEIGHBOUR: 'it returns false'. Refute it at one input. -/
def cardSharedWrong : ChangeSpec := { name := "cardShared", fn := fun _ => fun
  | [d1, d2, d3] => { results := [.lit (.bool false)], args := [d1, d2, d3] }
  | _ => none }
def CardSharedWrongFalsely : Prop := cardSharedRow.holds Try.pinned (OpenSpec.ofChange cardSharedWrong)

/-- 'petershamlaw02.CardSquares': WHATEVER THE INPUT: true; the input reads as it did. -/
def cardSquaresSpec : ChangeSpec := { name := "cardSquares", fn := fun _ => fun
  | [d1, d2, d3] => { results := [.lit (.bool true)], args := [d1, d2, d3] }
  | _ => none }
def cardSquaresRow : OpenClaim := { program := "ytppkmjfplhenmaa", sum := "bdd653fe61266239ca557f1c1b1e96925475375f67a4671e389f4eeed9806596", func := "petersham/petershamlaw02.CardSquares", spec := "cardSquares", unfollowed := true, recurses := true, apart := false }
def CardSquaresSaid : Prop := cardSquaresRow.holds Try.pinned (OpenSpec.ofChange cardSquaresSpec)

/-- ITS FALSE NEIGHBOUR: 'it returns false'. Refute it at one input. -/
def cardSquaresWrong : ChangeSpec := { name := "cardSquares", fn := fun _ => fun
  | [d1, d2, d3] => { results := [.lit (.bool false)], args := [d1, d2, d3] }
  | _ => none }
def CardSquaresWrongFalsely : Prop := cardSquaresRow.holds Try.pinned (OpenSpec.ofChange cardSquaresWrong)

/-- 'petershamlaw02.CardChanged': WHATEVER THE INPUT: true; the input reads as it did. -/
def cardChangedSpec : ChangeSpec := { name := "cardChanged", fn := fun _ => fun
  | [d1, d2, d3] => { results := [.lit (.bool true)], args := [d1, d2, d3] }
  | _ => none }
def cardChangedRow : OpenClaim := { program := "ytppkmjfplhenmaa", sum := "bdd653fe61266239ca557f1c1b1e96925475375f67a4671e389f4eeed9806596", func := "petersham/petershamlaw02.CardChanged", spec := "cardChanged", unfollowed := true, recurses := true, apart := false }
def CardChangedSaid : Prop := cardChangedRow.holds Try.pinned (OpenSpec.ofChange cardChangedSpec)

/-- ITS FALSE NEIGHBOUR: 'it returns false'. Refute it at one input. -/
def cardChangedWrong : ChangeSpec := { name := "cardChanged", fn := fun _ => fun
  | [d1, d2, d3] => { results := [.lit (.bool false)], args := [d1, d2, d3] }
  | _ => none }
def CardChangedWrongFalsely : Prop := cardChangedRow.holds Try.pinned (OpenSpec.ofChange cardChangedWrong)

/-- 'petershamlaw02.CardFewest': WHATEVER THE INPUT: true; the input reads as it did. -/
def cardFewestSpec : ChangeSpec := { name := "cardFewest", fn := fun _ => fun
  | [d] => { results := [.lit (.bool true)], args := [d] }
  | _ => none }
def cardFewestRow : OpenClaim := { program := "ytppkmjfplhenmaa", sum := "bdd653fe61266239ca557f1c1b1e96925475375f67a4671e389f4eeed9806596", func := "petersham/petershamlaw02.CardFewest", spec := "cardFewest", unfollowed := true, recurses := true, apart := false }
def CardFewestSaid : Prop := cardFewestRow.holds Try.pinned (OpenSpec.ofChange cardFewestSpec)

/-- ITS FALSE NEIGHBOUR: 'it returns false'. Refute it at one input. -/
def cardFewestWrong : ChangeSpec := { name := "cardFewest", fn := fun _ => fun
  | [d] => { results := [.lit (.bool false)], args := [d] }
  | _ => none }
def CardFewestWrongFalsely : Prop := cardFewestRow.holds Try.pinned (OpenSpec.ofChange cardFewestWrong)

/-- 'petershamlaw02.CardPart': WHATEVER THE INPUT: true; the input reads as it did. -/
def cardPartSpec : ChangeSpec := { name := "cardPart", fn := fun _ => fun
  | [d1, d2, d3] => { results := [.lit (.bool true)], args := [d1, d2, d3] }
  | _ => none }
def cardPartRow : OpenClaim := { program := "ytppkmjfplhenmaa", sum := "bdd653fe61266239ca557f1c1b1e96925475375f67a4671e389f4eeed9806596", func := "petersham/petershamlaw02.CardPart", spec := "cardPart", unfollowed := true, recurses := true, apart := false }
def CardPartSaid : Prop := cardPartRow.holds Try.pinned (OpenSpec.ofChange cardPartSpec)

/-- ITS FALSE NEIGHBOUR: 'it returns false'. Refute it at one input. -/
def cardPartWrong : ChangeSpec := { name := "cardPart", fn := fun _ => fun
  | [d1, d2, d3] => { results := [.lit (.bool false)], args := [d1, d2, d3] }
  | _ => none }
def CardPartWrongFalsely : Prop := cardPartRow.holds Try.pinned (OpenSpec.ofChange cardPartWrong)

/-- 'petershamlaw02.CardForever': WHATEVER THE INPUT: true; the input reads as it did. -/
def cardForeverSpec : ChangeSpec := { name := "cardForever", fn := fun _ => fun
  | [d1, d2, d3] => { results := [.lit (.bool true)], args := [d1, d2, d3] }
  | _ => none }
def cardForeverRow : OpenClaim := { program := "ytppkmjfplhenmaa", sum := "bdd653fe61266239ca557f1c1b1e96925475375f67a4671e389f4eeed9806596", func := "petersham/petershamlaw02.CardForever", spec := "cardForever", unfollowed := true, recurses := true, apart := false }
def CardForeverSaid : Prop := cardForeverRow.holds Try.pinned (OpenSpec.ofChange cardForeverSpec)

/-- ITS FALSE NEIGHBOUR: 'it returns false'. Refute it at one input. -/
def cardForeverWrong : ChangeSpec := { name := "cardForever", fn := fun _ => fun
  | [d1, d2, d3] => { results := [.lit (.bool false)], args := [d1, d2, d3] }
  | _ => none }
def CardForeverWrongFalsely : Prop := cardForeverRow.holds Try.pinned (OpenSpec.ofChange cardForeverWrong)

/-- 'petershamlaw02.CardRuns': WHATEVER THE INPUT: true; the input reads as it did. -/
def cardRunsSpec : ChangeSpec := { name := "cardRuns", fn := fun _ => fun
  | [d1, d2, d3] => { results := [.lit (.bool true)], args := [d1, d2, d3] }
  | _ => none }
def cardRunsRow : OpenClaim := { program := "ytppkmjfplhenmaa", sum := "bdd653fe61266239ca557f1c1b1e96925475375f67a4671e389f4eeed9806596", func := "petersham/petershamlaw02.CardRuns", spec := "cardRuns", unfollowed := true, recurses := true, apart := false }
def CardRunsSaid : Prop := cardRunsRow.holds Try.pinned (OpenSpec.ofChange cardRunsSpec)

/-- ITS FALSE NEIGHBOUR: 'it returns false'. Refute it at one input. -/
def cardRunsWrong : ChangeSpec := { name := "cardRuns", fn := fun _ => fun
  | [d1, d2, d3] => { results := [.lit (.bool false)], args := [d1, d2, d3] }
  | _ => none }
def CardRunsWrongFalsely : Prop := cardRunsRow.holds Try.pinned (OpenSpec.ofChange cardRunsWrong)

/-- 'petershamlaw02.CardPapers': WHATEVER THE INPUT: true; the input reads as it did. -/
def cardPapersSpec : ChangeSpec := { name := "cardPapers", fn := fun _ => fun
  | [d1, d2, d3, d4] => { results := [.lit (.bool true)], args := [d1, d2, d3, d4] }
  | _ => none }
def cardPapersRow : OpenClaim := { program := "ytppkmjfplhenmaa", sum := "bdd653fe61266239ca557f1c1b1e96925475375f67a4671e389f4eeed9806596", func := "petersham/petershamlaw02.CardPapers", spec := "cardPapers", unfollowed := true, recurses := true, apart := false }
def CardPapersSaid : Prop := cardPapersRow.holds Try.pinned (OpenSpec.ofChange cardPapersSpec)

/-- ITS FALSE NEIGHBOUR: 'it returns false'. Refute it at one input. -/
def cardPapersWrong : ChangeSpec := { name := "cardPapers", fn := fun _ => fun
  | [d1, d2, d3, d4] => { results := [.lit (.bool false)], args := [d1, d2, d3, d4] }
  | _ => none }
def CardPapersWrongFalsely : Prop := cardPapersRow.holds Try.pinned (OpenSpec.ofChange cardPapersWrong)

/-- 'petershamlaw02.CardSmall': WHATEVER THE INPUT: true; the input reads as it did. -/
def cardSmallSpec : ChangeSpec := { name := "cardSmall", fn := fun _ => fun
  | [] => { results := [.lit (.bool true)], args := [] }
  | _ => none }
def cardSmallRow : OpenClaim := { program := "ytppkmjfplhenmaa", sum := "bdd653fe61266239ca557f1c1b1e96925475375f67a4671e389f4eeed9806596", func := "petersham/petershamlaw02.CardSmall", spec := "cardSmall", unfollowed := true, recurses := true, apart := false }
def CardSmallSaid : Prop := cardSmallRow.holds Try.pinned (OpenSpec.ofChange cardSmallSpec)

/-- ITS FALSE NEIGHBOUR: 'it returns false'. Refute it at one input. -/
def cardSmallWrong : ChangeSpec := { name := "cardSmall", fn := fun _ => fun
  | [] => { results := [.lit (.bool false)], args := [] }
  | _ => none }
def CardSmallWrongFalsely : Prop := cardSmallRow.holds Try.pinned (OpenSpec.ofChange cardSmallWrong)

/- THE SECOND FORM. 'bulk': how many values and letters a reading holds, each counted each time it is reached (what is shared counts as often as it is met; a slice's spare places count too). A statement '..UptoSaid' is the law's where the arguments, and the package variables that the reading takes, are together of bulk at most 1048576: NARROWER than '..Said'. Prove '..Said' where nothing that the law and all that it calls make is longer than what came in: it says more and counts as full. Else prove '..UptoSaid'. A law counts once. -/
mutual
def uptoBulk {H : Type} : DataW H → Nat
  | .lit (.string bytes) => bytes.length + 1
  | .lit _ => 1
  | .nil => 1
  | .ptr d => uptoBulk d + 1
  | .slice elems spare => uptoBulkAll elems + uptoBulkAll spare + 1
  | .agg parts => uptoBulkAll parts + 1
  | .iface _ d => uptoBulk d + 1
  | .map entries => uptoBulkEntries entries + 1
  | .held _ => 1
def uptoBulkAll {H : Type} : List (DataW H) → Nat
  | [] => 0
  | d :: r => uptoBulk d + uptoBulkAll r
def uptoBulkEntries {H : Type} : List (Lit × DataW H) → Nat
  | [] => 0
  | x :: r => uptoBulkEntry x + uptoBulkEntries r
def uptoBulkEntry {H : Type} : Lit × DataW H → Nat
  | (.string bytes, d) => bytes.length + uptoBulk d + 1
  | (_, d) => uptoBulk d + 1
 end
def uptoSmall : (H : Type) → List (DataW H) → Bool := fun _ ds => decide (uptoBulkAll ds ≤ 1048576)
def OpenSpec.upto (s : _root_.Go.ChangeSpec) : _root_.Go.OpenSpec := { _root_.Go.OpenSpec.ofChange s with cond := some uptoSmall }

/-- 'petershamlaw02.CardChains', WHERE WHAT IT READS IS OF BULK AT MOST 1048576: true; the input reads as it did. -/
def cardChainsUptoRow : OpenClaim := { program := "ytppkmjfplhenmaa", sum := "bdd653fe61266239ca557f1c1b1e96925475375f67a4671e389f4eeed9806596", func := "petersham/petershamlaw02.CardChains", spec := "cardChains", unfollowed := true, recurses := true, apart := false, narrowed := true }
def CardChainsUptoSaid : Prop := cardChainsUptoRow.holds Try.pinned (OpenSpec.upto cardChainsSpec)

/-- 'petershamlaw02.CardOnly', WHERE WHAT IT READS IS OF BULK AT MOST 1048576: true; the input reads as it did. -/
def cardOnlyUptoRow : OpenClaim := { program := "ytppkmjfplhenmaa", sum := "bdd653fe61266239ca557f1c1b1e96925475375f67a4671e389f4eeed9806596", func := "petersham/petershamlaw02.CardOnly", spec := "cardOnly", unfollowed := true, recurses := true, apart := false, narrowed := true }
def CardOnlyUptoSaid : Prop := cardOnlyUptoRow.holds Try.pinned (OpenSpec.upto cardOnlySpec)

/-- 'petershamlaw02.CardMoved', WHERE WHAT IT READS IS OF BULK AT MOST 1048576: true; the input reads as it did. -/
def cardMovedUptoRow : OpenClaim := { program := "ytppkmjfplhenmaa", sum := "bdd653fe61266239ca557f1c1b1e96925475375f67a4671e389f4eeed9806596", func := "petersham/petershamlaw02.CardMoved", spec := "cardMoved", unfollowed := true, recurses := true, apart := false, narrowed := true }
def CardMovedUptoSaid : Prop := cardMovedUptoRow.holds Try.pinned (OpenSpec.upto cardMovedSpec)

/-- 'petershamlaw02.CardFloats', WHERE WHAT IT READS IS OF BULK AT MOST 1048576: true; the input reads as it did. -/
def cardFloatsUptoRow : OpenClaim := { program := "ytppkmjfplhenmaa", sum := "bdd653fe61266239ca557f1c1b1e96925475375f67a4671e389f4eeed9806596", func := "petersham/petershamlaw02.CardFloats", spec := "cardFloats", unfollowed := true, recurses := true, apart := false, narrowed := true }
def CardFloatsUptoSaid : Prop := cardFloatsUptoRow.holds Try.pinned (OpenSpec.upto cardFloatsSpec)

/-- 'petershamlaw02.CardRepeated', WHERE WHAT IT READS IS OF BULK AT MOST 1048576: true; the input reads as it did. -/
def cardRepeatedUptoRow : OpenClaim := { program := "ytppkmjfplhenmaa", sum := "bdd653fe61266239ca557f1c1b1e96925475375f67a4671e389f4eeed9806596", func := "petersham/petershamlaw02.CardRepeated", spec := "cardRepeated", unfollowed := true, recurses := true, apart := false, narrowed := true }
def CardRepeatedUptoSaid : Prop := cardRepeatedUptoRow.holds Try.pinned (OpenSpec.upto cardRepeatedSpec)

/-- 'petershamlaw02.CardPlans', WHERE WHAT IT READS IS OF BULK AT MOST 1048576: true; the input reads as it did. -/
def cardPlansUptoRow : OpenClaim := { program := "ytppkmjfplhenmaa", sum := "bdd653fe61266239ca557f1c1b1e96925475375f67a4671e389f4eeed9806596", func := "petersham/petershamlaw02.CardPlans", spec := "cardPlans", unfollowed := true, recurses := true, apart := false, narrowed := true }
def CardPlansUptoSaid : Prop := cardPlansUptoRow.holds Try.pinned (OpenSpec.upto cardPlansSpec)

/-- 'petershamlaw02.CardRibbons', WHERE WHAT IT READS IS OF BULK AT MOST 1048576: true; the input reads as it did. -/
def cardRibbonsUptoRow : OpenClaim := { program := "ytppkmjfplhenmaa", sum := "bdd653fe61266239ca557f1c1b1e96925475375f67a4671e389f4eeed9806596", func := "petersham/petershamlaw02.CardRibbons", spec := "cardRibbons", unfollowed := true, recurses := true, apart := false, narrowed := true }
def CardRibbonsUptoSaid : Prop := cardRibbonsUptoRow.holds Try.pinned (OpenSpec.upto cardRibbonsSpec)

/-- 'petershamlaw02.CardShared', WHERE WHAT IT READS IS OF BULK AT MOST 1048576: true; the input reads as it did. -/
def cardSharedUptoRow : OpenClaim := { program := "ytppkmjfplhenmaa", sum := "bdd653fe61266239ca557f1c1b1e96925475375f67a4671e389f4eeed9806596", func := "petersham/petershamlaw02.CardShared", spec := "cardShared", unfollowed := true, recurses := true, apart := false, narrowed := true }
def CardSharedUptoSaid : Prop := cardSharedUptoRow.holds Try.pinned (OpenSpec.upto cardSharedSpec)

/-- 'petershamlaw02.CardSquares', WHERE WHAT IT READS IS OF BULK AT MOST 1048576: true; the input reads as it did. -/
def cardSquaresUptoRow : OpenClaim := { program := "ytppkmjfplhenmaa", sum := "bdd653fe61266239ca557f1c1b1e96925475375f67a4671e389f4eeed9806596", func := "petersham/petershamlaw02.CardSquares", spec := "cardSquares", unfollowed := true, recurses := true, apart := false, narrowed := true }
def CardSquaresUptoSaid : Prop := cardSquaresUptoRow.holds Try.pinned (OpenSpec.upto cardSquaresSpec)

/-- 'petershamlaw02.CardChanged', WHERE WHAT IT READS IS OF BULK AT MOST 1048576: true; the input reads as it did. -/
def cardChangedUptoRow : OpenClaim := { program := "ytppkmjfplhenmaa", sum := "bdd653fe61266239ca557f1c1b1e96925475375f67a4671e389f4eeed9806596", func := "petersham/petershamlaw02.CardChanged", spec := "cardChanged", unfollowed := true, recurses := true, apart := false, narrowed := true }
def CardChangedUptoSaid : Prop := cardChangedUptoRow.holds Try.pinned (OpenSpec.upto cardChangedSpec)

/-- 'petershamlaw02.CardFewest', WHERE WHAT IT READS IS OF BULK AT MOST 1048576: true; the input reads as it did. -/
def cardFewestUptoRow : OpenClaim := { program := "ytppkmjfplhenmaa", sum := "bdd653fe61266239ca557f1c1b1e96925475375f67a4671e389f4eeed9806596", func := "petersham/petershamlaw02.CardFewest", spec := "cardFewest", unfollowed := true, recurses := true, apart := false, narrowed := true }
def CardFewestUptoSaid : Prop := cardFewestUptoRow.holds Try.pinned (OpenSpec.upto cardFewestSpec)

/-- 'petershamlaw02.CardPart', WHERE WHAT IT READS IS OF BULK AT MOST 1048576: true; the input reads as it did. -/
def cardPartUptoRow : OpenClaim := { program := "ytppkmjfplhenmaa", sum := "bdd653fe61266239ca557f1c1b1e96925475375f67a4671e389f4eeed9806596", func := "petersham/petershamlaw02.CardPart", spec := "cardPart", unfollowed := true, recurses := true, apart := false, narrowed := true }
def CardPartUptoSaid : Prop := cardPartUptoRow.holds Try.pinned (OpenSpec.upto cardPartSpec)

/-- 'petershamlaw02.CardForever', WHERE WHAT IT READS IS OF BULK AT MOST 1048576: true; the input reads as it did. -/
def cardForeverUptoRow : OpenClaim := { program := "ytppkmjfplhenmaa", sum := "bdd653fe61266239ca557f1c1b1e96925475375f67a4671e389f4eeed9806596", func := "petersham/petershamlaw02.CardForever", spec := "cardForever", unfollowed := true, recurses := true, apart := false, narrowed := true }
def CardForeverUptoSaid : Prop := cardForeverUptoRow.holds Try.pinned (OpenSpec.upto cardForeverSpec)

/-- 'petershamlaw02.CardRuns', WHERE WHAT IT READS IS OF BULK AT MOST 1048576: true; the input reads as it did. -/
def cardRunsUptoRow : OpenClaim := { program := "ytppkmjfplhenmaa", sum := "bdd653fe61266239ca557f1c1b1e96925475375f67a4671e389f4eeed9806596", func := "petersham/petershamlaw02.CardRuns", spec := "cardRuns", unfollowed := true, recurses := true, apart := false, narrowed := true }
def CardRunsUptoSaid : Prop := cardRunsUptoRow.holds Try.pinned (OpenSpec.upto cardRunsSpec)

/-- 'petershamlaw02.CardPapers', WHERE WHAT IT READS IS OF BULK AT MOST 1048576: true; the input reads as it did. -/
def cardPapersUptoRow : OpenClaim := { program := "ytppkmjfplhenmaa", sum := "bdd653fe61266239ca557f1c1b1e96925475375f67a4671e389f4eeed9806596", func := "petersham/petershamlaw02.CardPapers", spec := "cardPapers", unfollowed := true, recurses := true, apart := false, narrowed := true }
def CardPapersUptoSaid : Prop := cardPapersUptoRow.holds Try.pinned (OpenSpec.upto cardPapersSpec)

/-- 'petershamlaw02.CardSmall', WHERE WHAT IT READS IS OF BULK AT MOST 1048576: true; the input reads as it did. -/
def cardSmallUptoRow : OpenClaim := { program := "ytppkmjfplhenmaa", sum := "bdd653fe61266239ca557f1c1b1e96925475375f67a4671e389f4eeed9806596", func := "petersham/petershamlaw02.CardSmall", spec := "cardSmall", unfollowed := true, recurses := true, apart := false, narrowed := true }
def CardSmallUptoSaid : Prop := cardSmallUptoRow.holds Try.pinned (OpenSpec.upto cardSmallSpec)

end Rows
end Go.Proofs.Ytppkmjfplhenmaa
