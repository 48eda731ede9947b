/-
  No cell of these rows narrows 'for every input' (looked for: loops, veiled, ifaces, maps, wideKeys, modest, calm, conditions, laid).
  DERIVED. THE GIVEN ROWS OF THIS SEAT. 16 by the template 'for every input the law returns true; each argument reads behind the call as it read before'; 0 by the template 'total and deterministic' (their statements: YtkhcblheekfdmaaTotals.lean).
  GIVEN WITH THE SEED: the statements are not yours to turn. If you find one false, say at which input.
  Laid BY PROGRAM, IN A SANDBOX (cutbox-rows.mjs): the forced cells as the released guide's own fill.sh prints them over the translation 1dd18fde67907adc… (all of the seat's roots in one cut). By AI agents, Wed Nov 11 2026. No macro, syntax, notation, axiom, sorry.
-/
import Derived.Test.YtkhcblheekfdmaaChecked
import GoSem.Claim
import GoSem.ClaimJoined
import GoSem.ClaimMapViews
import Derived.JoinedTies
import Derived.KernelRfl
namespace Go.Proofs.Ytkhcblheekfdmaa
/- THE CELL 'sum', in the pinned program and in every row, IS THE sha256 OF THE DUMP (.gsa) THAT YtkhcblheekfdmaaProg.lean LOADS. Nothing in Lean hashes anything: it is a label: what it is worth is what the hold of that sum in a sandbox is worth. -/
noncomputable def Try.pinned : Pinned := { name := "ytkhcblheekfdmaa", sum := "1dd18fde67907adc1b03f45b6bd3ede4eff740a37772485d42762ac142f00c8a", checked := Try.checked }
namespace Rows
def none {H : Type} : Left H := { results := [], args := [] }

/-- 'laws.FnEdges': WHATEVER THE INPUT: true; the input reads as it did. -/
def fnEdgesSpec : ChangeSpec := { name := "fnEdges", fn := fun _ => fun
  | [d] => { results := [.lit (.bool true)], args := [d] }
  | _ => none }
def fnEdgesRow : OpenClaim := { program := "ytkhcblheekfdmaa", sum := "1dd18fde67907adc1b03f45b6bd3ede4eff740a37772485d42762ac142f00c8a", func := "loop.example/g00811/laws.FnEdges", spec := "fnEdges", unfollowed := true, recurses := true, apart := false }
def FnEdgesSaid : Prop := fnEdgesRow.holds Try.pinned (OpenSpec.ofChange fnEdgesSpec)

/-- ITS FALSE NEIGHBOUR: 'it returns false'. Refute it at one input. -/
def fnEdgesWrong : ChangeSpec := { name := "fnEdges", fn := fun _ => fun
  | [d] => { results := [.lit (.bool false)], args := [d] }
  | _ => none }
def FnEdgesWrongFalsely : Prop := fnEdgesRow.holds Try.pinned (OpenSpec.ofChange fnEdgesWrong)

/-- 'laws.FnExactIsValidWall': WHATEVER THE INPUT: true; the input reads as it did. -/
def fnExactIsValidWallSpec : ChangeSpec := { name := "fnExactIsValidWall", fn := fun _ => fun
  | [d] => { results := [.lit (.bool true)], args := [d] }
  | _ => none }
def fnExactIsValidWallRow : OpenClaim := { program := "ytkhcblheekfdmaa", sum := "1dd18fde67907adc1b03f45b6bd3ede4eff740a37772485d42762ac142f00c8a", func := "loop.example/g00811/laws.FnExactIsValidWall", spec := "fnExactIsValidWall", unfollowed := true, recurses := true, apart := false }
def FnExactIsValidWallSaid : Prop := fnExactIsValidWallRow.holds Try.pinned (OpenSpec.ofChange fnExactIsValidWallSpec)

/-- ITS FALSE NEIGHBOUR: 'it returns false'. Refute it at one input. -/
def fnExactIsValidWallWrong : ChangeSpec := { name := "fnExactIsValidWall", fn := fun _ => fun
  | [d] => { results := [.lit (.bool false)], args := [d] }
  | _ => none }
def FnExactIsValidWallWrongFalsely : Prop := fnExactIsValidWallRow.holds Try.pinned (OpenSpec.ofChange fnExactIsValidWallWrong)

/-- 'laws.FnExactIsAscending': WHATEVER THE INPUT: true; the input reads as it did. -/
def fnExactIsAscendingSpec : ChangeSpec := { name := "fnExactIsAscending", fn := fun _ => fun
  | [d] => { results := [.lit (.bool true)], args := [d] }
  | _ => none }
def fnExactIsAscendingRow : OpenClaim := { program := "ytkhcblheekfdmaa", sum := "1dd18fde67907adc1b03f45b6bd3ede4eff740a37772485d42762ac142f00c8a", func := "loop.example/g00811/laws.FnExactIsAscending", spec := "fnExactIsAscending", unfollowed := true, recurses := true, apart := false }
def FnExactIsAscendingSaid : Prop := fnExactIsAscendingRow.holds Try.pinned (OpenSpec.ofChange fnExactIsAscendingSpec)

/-- ITS FALSE NEIGHBOUR: 'it returns false'. Refute it at one input. -/
def fnExactIsAscendingWrong : ChangeSpec := { name := "fnExactIsAscending", fn := fun _ => fun
  | [d] => { results := [.lit (.bool false)], args := [d] }
  | _ => none }
def FnExactIsAscendingWrongFalsely : Prop := fnExactIsAscendingRow.holds Try.pinned (OpenSpec.ofChange fnExactIsAscendingWrong)

/-- 'laws.FnExactSpansX': WHATEVER THE INPUT: true; the input reads as it did. -/
def fnExactSpansXSpec : ChangeSpec := { name := "fnExactSpansX", fn := fun _ => fun
  | [d1, d2, d3] => { results := [.lit (.bool true)], args := [d1, d2, d3] }
  | _ => none }
def fnExactSpansXRow : OpenClaim := { program := "ytkhcblheekfdmaa", sum := "1dd18fde67907adc1b03f45b6bd3ede4eff740a37772485d42762ac142f00c8a", func := "loop.example/g00811/laws.FnExactSpansX", spec := "fnExactSpansX", unfollowed := true, recurses := true, apart := false }
def FnExactSpansXSaid : Prop := fnExactSpansXRow.holds Try.pinned (OpenSpec.ofChange fnExactSpansXSpec)

/-- ITS FALSE NEIGHBOUR: 'it returns false'. Refute it at one input. -/
def fnExactSpansXWrong : ChangeSpec := { name := "fnExactSpansX", fn := fun _ => fun
  | [d1, d2, d3] => { results := [.lit (.bool false)], args := [d1, d2, d3] }
  | _ => none }
def FnExactSpansXWrongFalsely : Prop := fnExactSpansXRow.holds Try.pinned (OpenSpec.ofChange fnExactSpansXWrong)

/-- 'laws.FnExactSlabOf': WHATEVER THE INPUT: true; the input reads as it did. -/
def fnExactSlabOfSpec : ChangeSpec := { name := "fnExactSlabOf", fn := fun _ => fun
  | [d1, d2] => { results := [.lit (.bool true)], args := [d1, d2] }
  | _ => none }
def fnExactSlabOfRow : OpenClaim := { program := "ytkhcblheekfdmaa", sum := "1dd18fde67907adc1b03f45b6bd3ede4eff740a37772485d42762ac142f00c8a", func := "loop.example/g00811/laws.FnExactSlabOf", spec := "fnExactSlabOf", unfollowed := true, recurses := true, apart := false }
def FnExactSlabOfSaid : Prop := fnExactSlabOfRow.holds Try.pinned (OpenSpec.ofChange fnExactSlabOfSpec)

/-- ITS FALSE NEIGHBOUR: 'it returns false'. Refute it at one input. -/
def fnExactSlabOfWrong : ChangeSpec := { name := "fnExactSlabOf", fn := fun _ => fun
  | [d1, d2] => { results := [.lit (.bool false)], args := [d1, d2] }
  | _ => none }
def FnExactSlabOfWrongFalsely : Prop := fnExactSlabOfRow.holds Try.pinned (OpenSpec.ofChange fnExactSlabOfWrong)

/-- 'laws.FnExactIsValidCell': WHATEVER THE INPUT: true; the input reads as it did. -/
def fnExactIsValidCellSpec : ChangeSpec := { name := "fnExactIsValidCell", fn := fun _ => fun
  | [d] => { results := [.lit (.bool true)], args := [d] }
  | _ => none }
def fnExactIsValidCellRow : OpenClaim := { program := "ytkhcblheekfdmaa", sum := "1dd18fde67907adc1b03f45b6bd3ede4eff740a37772485d42762ac142f00c8a", func := "loop.example/g00811/laws.FnExactIsValidCell", spec := "fnExactIsValidCell", unfollowed := true, recurses := true, apart := false }
def FnExactIsValidCellSaid : Prop := fnExactIsValidCellRow.holds Try.pinned (OpenSpec.ofChange fnExactIsValidCellSpec)

/-- ITS FALSE NEIGHBOUR: 'it returns false'. Refute it at one input. -/
def fnExactIsValidCellWrong : ChangeSpec := { name := "fnExactIsValidCell", fn := fun _ => fun
  | [d] => { results := [.lit (.bool false)], args := [d] }
  | _ => none }
def FnExactIsValidCellWrongFalsely : Prop := fnExactIsValidCellRow.holds Try.pinned (OpenSpec.ofChange fnExactIsValidCellWrong)

/-- 'laws.FnExactInBox': WHATEVER THE INPUT: true; the input reads as it did. -/
def fnExactInBoxSpec : ChangeSpec := { name := "fnExactInBox", fn := fun _ => fun
  | [d1, d2] => { results := [.lit (.bool true)], args := [d1, d2] }
  | _ => none }
def fnExactInBoxRow : OpenClaim := { program := "ytkhcblheekfdmaa", sum := "1dd18fde67907adc1b03f45b6bd3ede4eff740a37772485d42762ac142f00c8a", func := "loop.example/g00811/laws.FnExactInBox", spec := "fnExactInBox", unfollowed := true, recurses := true, apart := false }
def FnExactInBoxSaid : Prop := fnExactInBoxRow.holds Try.pinned (OpenSpec.ofChange fnExactInBoxSpec)

/-- ITS FALSE NEIGHBOUR: 'it returns false'. Refute it at one input. -/
def fnExactInBoxWrong : ChangeSpec := { name := "fnExactInBox", fn := fun _ => fun
  | [d1, d2] => { results := [.lit (.bool false)], args := [d1, d2] }
  | _ => none }
def FnExactInBoxWrongFalsely : Prop := fnExactInBoxRow.holds Try.pinned (OpenSpec.ofChange fnExactInBoxWrong)

/-- 'laws.FnExactInWall': WHATEVER THE INPUT: true; the input reads as it did. -/
def fnExactInWallSpec : ChangeSpec := { name := "fnExactInWall", fn := fun _ => fun
  | [d1, d2] => { results := [.lit (.bool true)], args := [d1, d2] }
  | _ => none }
def fnExactInWallRow : OpenClaim := { program := "ytkhcblheekfdmaa", sum := "1dd18fde67907adc1b03f45b6bd3ede4eff740a37772485d42762ac142f00c8a", func := "loop.example/g00811/laws.FnExactInWall", spec := "fnExactInWall", unfollowed := true, recurses := true, apart := false }
def FnExactInWallSaid : Prop := fnExactInWallRow.holds Try.pinned (OpenSpec.ofChange fnExactInWallSpec)

/-- ITS FALSE NEIGHBOUR: 'it returns false'. Refute it at one input. -/
def fnExactInWallWrong : ChangeSpec := { name := "fnExactInWall", fn := fun _ => fun
  | [d1, d2] => { results := [.lit (.bool false)], args := [d1, d2] }
  | _ => none }
def FnExactInWallWrongFalsely : Prop := fnExactInWallRow.holds Try.pinned (OpenSpec.ofChange fnExactInWallWrong)

/-- 'laws.FnExactInnerProduct': WHATEVER THE INPUT: true; the input reads as it did. -/
def fnExactInnerProductSpec : ChangeSpec := { name := "fnExactInnerProduct", fn := fun _ => fun
  | [d1, d2, d3] => { results := [.lit (.bool true)], args := [d1, d2, d3] }
  | _ => none }
def fnExactInnerProductRow : OpenClaim := { program := "ytkhcblheekfdmaa", sum := "1dd18fde67907adc1b03f45b6bd3ede4eff740a37772485d42762ac142f00c8a", func := "loop.example/g00811/laws.FnExactInnerProduct", spec := "fnExactInnerProduct", unfollowed := true, recurses := true, apart := false }
def FnExactInnerProductSaid : Prop := fnExactInnerProductRow.holds Try.pinned (OpenSpec.ofChange fnExactInnerProductSpec)

/-- ITS FALSE NEIGHBOUR: 'it returns false'. Refute it at one input. -/
def fnExactInnerProductWrong : ChangeSpec := { name := "fnExactInnerProduct", fn := fun _ => fun
  | [d1, d2, d3] => { results := [.lit (.bool false)], args := [d1, d2, d3] }
  | _ => none }
def FnExactInnerProductWrongFalsely : Prop := fnExactInnerProductRow.holds Try.pinned (OpenSpec.ofChange fnExactInnerProductWrong)

/-- 'laws.FnExactLevelX': WHATEVER THE INPUT: true; the input reads as it did. -/
def fnExactLevelXSpec : ChangeSpec := { name := "fnExactLevelX", fn := fun _ => fun
  | [d1, d2] => { results := [.lit (.bool true)], args := [d1, d2] }
  | _ => none }
def fnExactLevelXRow : OpenClaim := { program := "ytkhcblheekfdmaa", sum := "1dd18fde67907adc1b03f45b6bd3ede4eff740a37772485d42762ac142f00c8a", func := "loop.example/g00811/laws.FnExactLevelX", spec := "fnExactLevelX", unfollowed := true, recurses := true, apart := false }
def FnExactLevelXSaid : Prop := fnExactLevelXRow.holds Try.pinned (OpenSpec.ofChange fnExactLevelXSpec)

/-- ITS FALSE NEIGHBOUR: 'it returns false'. Refute it at one input. -/
def fnExactLevelXWrong : ChangeSpec := { name := "fnExactLevelX", fn := fun _ => fun
  | [d1, d2] => { results := [.lit (.bool false)], args := [d1, d2] }
  | _ => none }
def FnExactLevelXWrongFalsely : Prop := fnExactLevelXRow.holds Try.pinned (OpenSpec.ofChange fnExactLevelXWrong)

/-- 'laws.FnExactHeightAt': WHATEVER THE INPUT: true; the input reads as it did. -/
def fnExactHeightAtSpec : ChangeSpec := { name := "fnExactHeightAt", fn := fun _ => fun
  | [d1, d2] => { results := [.lit (.bool true)], args := [d1, d2] }
  | _ => none }
def fnExactHeightAtRow : OpenClaim := { program := "ytkhcblheekfdmaa", sum := "1dd18fde67907adc1b03f45b6bd3ede4eff740a37772485d42762ac142f00c8a", func := "loop.example/g00811/laws.FnExactHeightAt", spec := "fnExactHeightAt", unfollowed := true, recurses := true, apart := false }
def FnExactHeightAtSaid : Prop := fnExactHeightAtRow.holds Try.pinned (OpenSpec.ofChange fnExactHeightAtSpec)

/-- ITS FALSE NEIGHBOUR: 'it returns false'. Refute it at one input. -/
def fnExactHeightAtWrong : ChangeSpec := { name := "fnExactHeightAt", fn := fun _ => fun
  | [d1, d2] => { results := [.lit (.bool false)], args := [d1, d2] }
  | _ => none }
def FnExactHeightAtWrongFalsely : Prop := fnExactHeightAtRow.holds Try.pinned (OpenSpec.ofChange fnExactHeightAtWrong)

/-- 'laws.FnExactCellMeetsWall': WHATEVER THE INPUT: true; the input reads as it did. -/
def fnExactCellMeetsWallSpec : ChangeSpec := { name := "fnExactCellMeetsWall", fn := fun _ => fun
  | [d1, d2] => { results := [.lit (.bool true)], args := [d1, d2] }
  | _ => none }
def fnExactCellMeetsWallRow : OpenClaim := { program := "ytkhcblheekfdmaa", sum := "1dd18fde67907adc1b03f45b6bd3ede4eff740a37772485d42762ac142f00c8a", func := "loop.example/g00811/laws.FnExactCellMeetsWall", spec := "fnExactCellMeetsWall", unfollowed := true, recurses := true, apart := false }
def FnExactCellMeetsWallSaid : Prop := fnExactCellMeetsWallRow.holds Try.pinned (OpenSpec.ofChange fnExactCellMeetsWallSpec)

/-- ITS FALSE NEIGHBOUR: 'it returns false'. Refute it at one input. -/
def fnExactCellMeetsWallWrong : ChangeSpec := { name := "fnExactCellMeetsWall", fn := fun _ => fun
  | [d1, d2] => { results := [.lit (.bool false)], args := [d1, d2] }
  | _ => none }
def FnExactCellMeetsWallWrongFalsely : Prop := fnExactCellMeetsWallRow.holds Try.pinned (OpenSpec.ofChange fnExactCellMeetsWallWrong)

/-- 'laws.FnExactPathSquares': WHATEVER THE INPUT: true; the input reads as it did. -/
def fnExactPathSquaresSpec : ChangeSpec := { name := "fnExactPathSquares", fn := fun _ => fun
  | [d] => { results := [.lit (.bool true)], args := [d] }
  | _ => none }
def fnExactPathSquaresRow : OpenClaim := { program := "ytkhcblheekfdmaa", sum := "1dd18fde67907adc1b03f45b6bd3ede4eff740a37772485d42762ac142f00c8a", func := "loop.example/g00811/laws.FnExactPathSquares", spec := "fnExactPathSquares", unfollowed := true, recurses := true, apart := false }
def FnExactPathSquaresSaid : Prop := fnExactPathSquaresRow.holds Try.pinned (OpenSpec.ofChange fnExactPathSquaresSpec)

/-- ITS FALSE NEIGHBOUR: 'it returns false'. Refute it at one input. -/
def fnExactPathSquaresWrong : ChangeSpec := { name := "fnExactPathSquares", fn := fun _ => fun
  | [d] => { results := [.lit (.bool false)], args := [d] }
  | _ => none }
def FnExactPathSquaresWrongFalsely : Prop := fnExactPathSquaresRow.holds Try.pinned (OpenSpec.ofChange fnExactPathSquaresWrong)

/-- 'laws.FnExactSegmentsMeet': WHATEVER THE INPUT: true; the input reads as it did. -/
def fnExactSegmentsMeetSpec : ChangeSpec := { name := "fnExactSegmentsMeet", fn := fun _ => fun
  | [d1, d2, d3, d4] => { results := [.lit (.bool true)], args := [d1, d2, d3, d4] }
  | _ => none }
def fnExactSegmentsMeetRow : OpenClaim := { program := "ytkhcblheekfdmaa", sum := "1dd18fde67907adc1b03f45b6bd3ede4eff740a37772485d42762ac142f00c8a", func := "loop.example/g00811/laws.FnExactSegmentsMeet", spec := "fnExactSegmentsMeet", unfollowed := true, recurses := true, apart := false }
def FnExactSegmentsMeetSaid : Prop := fnExactSegmentsMeetRow.holds Try.pinned (OpenSpec.ofChange fnExactSegmentsMeetSpec)

/-- ITS FALSE NEIGHBOUR: 'it returns false'. Refute it at one input. -/
def fnExactSegmentsMeetWrong : ChangeSpec := { name := "fnExactSegmentsMeet", fn := fun _ => fun
  | [d1, d2, d3, d4] => { results := [.lit (.bool false)], args := [d1, d2, d3, d4] }
  | _ => none }
def FnExactSegmentsMeetWrongFalsely : Prop := fnExactSegmentsMeetRow.holds Try.pinned (OpenSpec.ofChange fnExactSegmentsMeetWrong)

/-- 'laws.FnExactInCell': WHATEVER THE INPUT: true; the input reads as it did. -/
def fnExactInCellSpec : ChangeSpec := { name := "fnExactInCell", fn := fun _ => fun
  | [d1, d2] => { results := [.lit (.bool true)], args := [d1, d2] }
  | _ => none }
def fnExactInCellRow : OpenClaim := { program := "ytkhcblheekfdmaa", sum := "1dd18fde67907adc1b03f45b6bd3ede4eff740a37772485d42762ac142f00c8a", func := "loop.example/g00811/laws.FnExactInCell", spec := "fnExactInCell", unfollowed := true, recurses := true, apart := false }
def FnExactInCellSaid : Prop := fnExactInCellRow.holds Try.pinned (OpenSpec.ofChange fnExactInCellSpec)

/-- ITS FALSE NEIGHBOUR: 'it returns false'. Refute it at one input. -/
def fnExactInCellWrong : ChangeSpec := { name := "fnExactInCell", fn := fun _ => fun
  | [d1, d2] => { results := [.lit (.bool false)], args := [d1, d2] }
  | _ => none }
def FnExactInCellWrongFalsely : Prop := fnExactInCellRow.holds Try.pinned (OpenSpec.ofChange fnExactInCellWrong)

/-- 'laws.FnExactSortRats': WHATEVER THE INPUT: true; the input reads as it did. -/
def fnExactSortRatsSpec : ChangeSpec := { name := "fnExactSortRats", fn := fun _ => fun
  | [d] => { results := [.lit (.bool true)], args := [d] }
  | _ => none }
def fnExactSortRatsRow : OpenClaim := { program := "ytkhcblheekfdmaa", sum := "1dd18fde67907adc1b03f45b6bd3ede4eff740a37772485d42762ac142f00c8a", func := "loop.example/g00811/laws.FnExactSortRats", spec := "fnExactSortRats", unfollowed := true, recurses := true, apart := false }
def FnExactSortRatsSaid : Prop := fnExactSortRatsRow.holds Try.pinned (OpenSpec.ofChange fnExactSortRatsSpec)

/-- ITS FALSE NEIGHBOUR: 'it returns false'. Refute it at one input. -/
def fnExactSortRatsWrong : ChangeSpec := { name := "fnExactSortRats", fn := fun _ => fun
  | [d] => { results := [.lit (.bool false)], args := [d] }
  | _ => none }
def FnExactSortRatsWrongFalsely : Prop := fnExactSortRatsRow.holds Try.pinned (OpenSpec.ofChange fnExactSortRatsWrong)

/- THE SECOND FORM. 'bulk': how many values and letters a reading holds, each counted each time it is reached (what is shared counts as often as it is met; a slice's spare places count too). A statement '..UptoSaid' is the law's where the arguments, and the package variables that the reading takes, are together of bulk at most 1048576: NARROWER than '..Said'. Prove '..Said' where nothing that the law and all that it calls make is longer than what came in: it says more and counts as full. Else prove '..UptoSaid'. A law counts once. -/
mutual
def uptoBulk {H : Type} : DataW H → Nat
  | .lit (.string bytes) => bytes.length + 1
  | .lit _ => 1
  | .nil => 1
  | .ptr d => uptoBulk d + 1
  | .slice elems spare => uptoBulkAll elems + uptoBulkAll spare + 1
  | .agg parts => uptoBulkAll parts + 1
  | .iface _ d => uptoBulk d + 1
  | .map entries => uptoBulkEntries entries + 1
  | .held _ => 1
def uptoBulkAll {H : Type} : List (DataW H) → Nat
  | [] => 0
  | d :: r => uptoBulk d + uptoBulkAll r
def uptoBulkEntries {H : Type} : List (Lit × DataW H) → Nat
  | [] => 0
  | x :: r => uptoBulkEntry x + uptoBulkEntries r
def uptoBulkEntry {H : Type} : Lit × DataW H → Nat
  | (.string bytes, d) => bytes.length + uptoBulk d + 1
  | (_, d) => uptoBulk d + 1
 end
def uptoSmall : (H : Type) → List (DataW H) → Bool := fun _ ds => decide (uptoBulkAll ds ≤ 1048576)
def OpenSpec.upto (s : _root_.Go.ChangeSpec) : _root_.Go.OpenSpec := { _root_.Go.OpenSpec.ofChange s with cond := some uptoSmall }

/-- 'laws.FnEdges', WHERE WHAT IT READS IS OF BULK AT MOST 1048576: true; the input reads as it did. -/
def fnEdgesUptoRow : OpenClaim := { program := "ytkhcblheekfdmaa", sum := "1dd18fde67907adc1b03f45b6bd3ede4eff740a37772485d42762ac142f00c8a", func := "loop.example/g00811/laws.FnEdges", spec := "fnEdges", unfollowed := true, recurses := true, apart := false, narrowed := true }
def FnEdgesUptoSaid : Prop := fnEdgesUptoRow.holds Try.pinned (OpenSpec.upto fnEdgesSpec)

/-- 'laws.FnExactIsValidWall', WHERE WHAT IT READS IS OF BULK AT MOST 1048576: true; the input reads as it did. -/
def fnExactIsValidWallUptoRow : OpenClaim := { program := "ytkhcblheekfdmaa", sum := "1dd18fde67907adc1b03f45b6bd3ede4eff740a37772485d42762ac142f00c8a", func := "loop.example/g00811/laws.FnExactIsValidWall", spec := "fnExactIsValidWall", unfollowed := true, recurses := true, apart := false, narrowed := true }
def FnExactIsValidWallUptoSaid : Prop := fnExactIsValidWallUptoRow.holds Try.pinned (OpenSpec.upto fnExactIsValidWallSpec)

/-- 'laws.FnExactIsAscending', WHERE WHAT IT READS IS OF BULK AT MOST 1048576: true; the input reads as it did. -/
def fnExactIsAscendingUptoRow : OpenClaim := { program := "ytkhcblheekfdmaa", sum := "1dd18fde67907adc1b03f45b6bd3ede4eff740a37772485d42762ac142f00c8a", func := "loop.example/g00811/laws.FnExactIsAscending", spec := "fnExactIsAscending", unfollowed := true, recurses := true, apart := false, narrowed := true }
def FnExactIsAscendingUptoSaid : Prop := fnExactIsAscendingUptoRow.holds Try.pinned (OpenSpec.upto fnExactIsAscendingSpec)

/-- 'laws.FnExactSpansX', WHERE WHAT IT READS IS OF BULK AT MOST 1048576: true; the input reads as it did. -/
def fnExactSpansXUptoRow : OpenClaim := { program := "ytkhcblheekfdmaa", sum := "1dd18fde67907adc1b03f45b6bd3ede4eff740a37772485d42762ac142f00c8a", func := "loop.example/g00811/laws.FnExactSpansX", spec := "fnExactSpansX", unfollowed := true, recurses := true, apart := false, narrowed := true }
def FnExactSpansXUptoSaid : Prop := fnExactSpansXUptoRow.holds Try.pinned (OpenSpec.upto fnExactSpansXSpec)

/-- 'laws.FnExactSlabOf', WHERE WHAT IT READS IS OF BULK AT MOST 1048576: true; the input reads as it did. -/
def fnExactSlabOfUptoRow : OpenClaim := { program := "ytkhcblheekfdmaa", sum := "1dd18fde67907adc1b03f45b6bd3ede4eff740a37772485d42762ac142f00c8a", func := "loop.example/g00811/laws.FnExactSlabOf", spec := "fnExactSlabOf", unfollowed := true, recurses := true, apart := false, narrowed := true }
def FnExactSlabOfUptoSaid : Prop := fnExactSlabOfUptoRow.holds Try.pinned (OpenSpec.upto fnExactSlabOfSpec)

/-- 'laws.FnExactIsValidCell', WHERE WHAT IT READS IS OF BULK AT MOST 1048576: true; the input reads as it did. -/
def fnExactIsValidCellUptoRow : OpenClaim := { program := "ytkhcblheekfdmaa", sum := "1dd18fde67907adc1b03f45b6bd3ede4eff740a37772485d42762ac142f00c8a", func := "loop.example/g00811/laws.FnExactIsValidCell", spec := "fnExactIsValidCell", unfollowed := true, recurses := true, apart := false, narrowed := true }
def FnExactIsValidCellUptoSaid : Prop := fnExactIsValidCellUptoRow.holds Try.pinned (OpenSpec.upto fnExactIsValidCellSpec)

/-- 'laws.FnExactInBox', WHERE WHAT IT READS IS OF BULK AT MOST 1048576: true; the input reads as it did. -/
def fnExactInBoxUptoRow : OpenClaim := { program := "ytkhcblheekfdmaa", sum := "1dd18fde67907adc1b03f45b6bd3ede4eff740a37772485d42762ac142f00c8a", func := "loop.example/g00811/laws.FnExactInBox", spec := "fnExactInBox", unfollowed := true, recurses := true, apart := false, narrowed := true }
def FnExactInBoxUptoSaid : Prop := fnExactInBoxUptoRow.holds Try.pinned (OpenSpec.upto fnExactInBoxSpec)

/-- 'laws.FnExactInWall', WHERE WHAT IT READS IS OF BULK AT MOST 1048576: true; the input reads as it did. -/
def fnExactInWallUptoRow : OpenClaim := { program := "ytkhcblheekfdmaa", sum := "1dd18fde67907adc1b03f45b6bd3ede4eff740a37772485d42762ac142f00c8a", func := "loop.example/g00811/laws.FnExactInWall", spec := "fnExactInWall", unfollowed := true, recurses := true, apart := false, narrowed := true }
def FnExactInWallUptoSaid : Prop := fnExactInWallUptoRow.holds Try.pinned (OpenSpec.upto fnExactInWallSpec)

/-- 'laws.FnExactInnerProduct', WHERE WHAT IT READS IS OF BULK AT MOST 1048576: true; the input reads as it did. -/
def fnExactInnerProductUptoRow : OpenClaim := { program := "ytkhcblheekfdmaa", sum := "1dd18fde67907adc1b03f45b6bd3ede4eff740a37772485d42762ac142f00c8a", func := "loop.example/g00811/laws.FnExactInnerProduct", spec := "fnExactInnerProduct", unfollowed := true, recurses := true, apart := false, narrowed := true }
def FnExactInnerProductUptoSaid : Prop := fnExactInnerProductUptoRow.holds Try.pinned (OpenSpec.upto fnExactInnerProductSpec)

/-- 'laws.FnExactLevelX', WHERE WHAT IT READS IS OF BULK AT MOST 1048576: true; the input reads as it did. -/
def fnExactLevelXUptoRow : OpenClaim := { program := "ytkhcblheekfdmaa", sum := "1dd18fde67907adc1b03f45b6bd3ede4eff740a37772485d42762ac142f00c8a", func := "loop.example/g00811/laws.FnExactLevelX", spec := "fnExactLevelX", unfollowed := true, recurses := true, apart := false, narrowed := true }
def FnExactLevelXUptoSaid : Prop := fnExactLevelXUptoRow.holds Try.pinned (OpenSpec.upto fnExactLevelXSpec)

/-- 'laws.FnExactHeightAt', WHERE WHAT IT READS IS OF BULK AT MOST 1048576: true; the input reads as it did. -/
def fnExactHeightAtUptoRow : OpenClaim := { program := "ytkhcblheekfdmaa", sum := "1dd18fde67907adc1b03f45b6bd3ede4eff740a37772485d42762ac142f00c8a", func := "loop.example/g00811/laws.FnExactHeightAt", spec := "fnExactHeightAt", unfollowed := true, recurses := true, apart := false, narrowed := true }
def FnExactHeightAtUptoSaid : Prop := fnExactHeightAtUptoRow.holds Try.pinned (OpenSpec.upto fnExactHeightAtSpec)

/-- 'laws.FnExactCellMeetsWall', WHERE WHAT IT READS IS OF BULK AT MOST 1048576: true; the input reads as it did. -/
def fnExactCellMeetsWallUptoRow : OpenClaim := { program := "ytkhcblheekfdmaa", sum := "1dd18fde67907adc1b03f45b6bd3ede4eff740a37772485d42762ac142f00c8a", func := "loop.example/g00811/laws.FnExactCellMeetsWall", spec := "fnExactCellMeetsWall", unfollowed := true, recurses := true, apart := false, narrowed := true }
def FnExactCellMeetsWallUptoSaid : Prop := fnExactCellMeetsWallUptoRow.holds Try.pinned (OpenSpec.upto fnExactCellMeetsWallSpec)

/-- 'laws.FnExactPathSquares', WHERE WHAT IT READS IS OF BULK AT MOST 1048576: true; the input reads as it did. -/
def fnExactPathSquaresUptoRow : OpenClaim := { program := "ytkhcblheekfdmaa", sum := "1dd18fde67907adc1b03f45b6bd3ede4eff740a37772485d42762ac142f00c8a", func := "loop.example/g00811/laws.FnExactPathSquares", spec := "fnExactPathSquares", unfollowed := true, recurses := true, apart := false, narrowed := true }
def FnExactPathSquaresUptoSaid : Prop := fnExactPathSquaresUptoRow.holds Try.pinned (OpenSpec.upto fnExactPathSquaresSpec)

/-- 'laws.FnExactSegmentsMeet', WHERE WHAT IT READS IS OF BULK AT MOST 1048576: true; the input reads as it did. -/
def fnExactSegmentsMeetUptoRow : OpenClaim := { program := "ytkhcblheekfdmaa", sum := "1dd18fde67907adc1b03f45b6bd3ede4eff740a37772485d42762ac142f00c8a", func := "loop.example/g00811/laws.FnExactSegmentsMeet", spec := "fnExactSegmentsMeet", unfollowed := true, recurses := true, apart := false, narrowed := true }
def FnExactSegmentsMeetUptoSaid : Prop := fnExactSegmentsMeetUptoRow.holds Try.pinned (OpenSpec.upto fnExactSegmentsMeetSpec)

/-- 'laws.FnExactInCell', WHERE WHAT IT READS IS OF BULK AT MOST 1048576: true; the input reads as it did. -/
def fnExactInCellUptoRow : OpenClaim := { program := "ytkhcblheekfdmaa", sum := "1dd18fde67907adc1b03f45b6bd3ede4eff740a37772485d42762ac142f00c8a", func := "loop.example/g00811/laws.FnExactInCell", spec := "fnExactInCell", unfollowed := true, recurses := true, apart := false, narrowed := true }
def FnExactInCellUptoSaid : Prop := fnExactInCellUptoRow.holds Try.pinned (OpenSpec.upto fnExactInCellSpec)

/-- 'laws.FnExactSortRats', WHERE WHAT IT READS IS OF BULK AT MOST 1048576: true; the input reads as it did. -/
def fnExactSortRatsUptoRow : OpenClaim := { program := "ytkhcblheekfdmaa", sum := "1dd18fde67907adc1b03f45b6bd3ede4eff740a37772485d42762ac142f00c8a", func := "loop.example/g00811/laws.FnExactSortRats", spec := "fnExactSortRats", unfollowed := true, recurses := true, apart := false, narrowed := true }
def FnExactSortRatsUptoSaid : Prop := fnExactSortRatsUptoRow.holds Try.pinned (OpenSpec.upto fnExactSortRatsSpec)

end Rows
end Go.Proofs.Ytkhcblheekfdmaa
