/-
  No cell of these rows narrows 'for every input' (looked for: loops, veiled, ifaces, maps, wideKeys, modest, calm, conditions, laid).
  DERIVED. THE GIVEN ROWS OF THIS SEAT. 12 by the template 'for every input the law returns true; each argument reads behind the call as it read before'; 0 by the template 'total and deterministic' (their statements: YtekjjnmcccfckaaTotals.lean).
  GIVEN WITH THE SEED: the statements are not yours to turn. If you find one false, say at which input.
  Laid BY PROGRAM, IN A SANDBOX (cutbox-rows.mjs): the forced cells as the released guide's own fill.sh prints them over the translation 334c17ba8b58b569… (all of the seat's roots in one cut). By AI agents, Wed Nov 11 2026. No macro, syntax, notation, axiom, sorry.
-/
import Derived.Test.YtekjjnmcccfckaaChecked
import GoSem.Claim
import GoSem.ClaimJoined
import GoSem.ClaimMapViews
import Derived.JoinedTies
import Derived.KernelRfl
namespace Go.Proofs.Ytekjjnmcccfckaa
/- THE CELL 'sum', in the pinned program and in every row, IS THE sha256 OF THE DUMP (.gsa) THAT YtekjjnmcccfckaaProg.lean LOADS. Nothing in Lean hashes anything: it is a label: what it is worth is what the hold of that sum in a sandbox is worth. -/
noncomputable def Try.pinned : Pinned := { name := "ytekjjnmcccfckaa", sum := "334c17ba8b58b569e6706460a4ab306d80f816e9910a66d4b3b3a1651f7e578f", checked := Try.checked }
namespace Rows
def none {H : Type} : Left H := { results := [], args := [] }

/-- 'laws.FnExactNextHeading': WHATEVER THE INPUT: true; the input reads as it did. -/
def fnExactNextHeadingSpec : ChangeSpec := { name := "fnExactNextHeading", fn := fun _ => fun
  | [d1, d2] => { results := [.lit (.bool true)], args := [d1, d2] }
  | _ => none }
def fnExactNextHeadingRow : OpenClaim := { program := "ytekjjnmcccfckaa", sum := "334c17ba8b58b569e6706460a4ab306d80f816e9910a66d4b3b3a1651f7e578f", func := "loop.example/g00811/laws.FnExactNextHeading", spec := "fnExactNextHeading", apart := false }
def FnExactNextHeadingSaid : Prop := fnExactNextHeadingRow.holds Try.pinned (OpenSpec.ofChange fnExactNextHeadingSpec)

/-- ITS FALSE NEIGHBOUR: 'it returns false'. Refute it at one input. -/
def fnExactNextHeadingWrong : ChangeSpec := { name := "fnExactNextHeading", fn := fun _ => fun
  | [d1, d2] => { results := [.lit (.bool false)], args := [d1, d2] }
  | _ => none }
def FnExactNextHeadingWrongFalsely : Prop := fnExactNextHeadingRow.holds Try.pinned (OpenSpec.ofChange fnExactNextHeadingWrong)

/-- 'laws.FnExactIsValidEdge': WHATEVER THE INPUT: true; the input reads as it did. -/
def fnExactIsValidEdgeSpec : ChangeSpec := { name := "fnExactIsValidEdge", fn := fun _ => fun
  | [d] => { results := [.lit (.bool true)], args := [d] }
  | _ => none }
def fnExactIsValidEdgeRow : OpenClaim := { program := "ytekjjnmcccfckaa", sum := "334c17ba8b58b569e6706460a4ab306d80f816e9910a66d4b3b3a1651f7e578f", func := "loop.example/g00811/laws.FnExactIsValidEdge", spec := "fnExactIsValidEdge", unfollowed := true, recurses := true, apart := false }
def FnExactIsValidEdgeSaid : Prop := fnExactIsValidEdgeRow.holds Try.pinned (OpenSpec.ofChange fnExactIsValidEdgeSpec)

/-- ITS FALSE NEIGHBOUR: 'it returns false'. Refute it at one input. -/
def fnExactIsValidEdgeWrong : ChangeSpec := { name := "fnExactIsValidEdge", fn := fun _ => fun
  | [d] => { results := [.lit (.bool false)], args := [d] }
  | _ => none }
def FnExactIsValidEdgeWrongFalsely : Prop := fnExactIsValidEdgeRow.holds Try.pinned (OpenSpec.ofChange fnExactIsValidEdgeWrong)

/-- 'laws.FnExactTurn': WHATEVER THE INPUT: true; the input reads as it did. -/
def fnExactTurnSpec : ChangeSpec := { name := "fnExactTurn", fn := fun _ => fun
  | [d1, d2, d3] => { results := [.lit (.bool true)], args := [d1, d2, d3] }
  | _ => none }
def fnExactTurnRow : OpenClaim := { program := "ytekjjnmcccfckaa", sum := "334c17ba8b58b569e6706460a4ab306d80f816e9910a66d4b3b3a1651f7e578f", func := "loop.example/g00811/laws.FnExactTurn", spec := "fnExactTurn", unfollowed := true, recurses := true, apart := false }
def FnExactTurnSaid : Prop := fnExactTurnRow.holds Try.pinned (OpenSpec.ofChange fnExactTurnSpec)

/-- ITS FALSE NEIGHBOUR: 'it returns false'. Refute it at one input. -/
def fnExactTurnWrong : ChangeSpec := { name := "fnExactTurn", fn := fun _ => fun
  | [d1, d2, d3] => { results := [.lit (.bool false)], args := [d1, d2, d3] }
  | _ => none }
def FnExactTurnWrongFalsely : Prop := fnExactTurnRow.holds Try.pinned (OpenSpec.ofChange fnExactTurnWrong)

/-- 'laws.FnExactTurnVec': WHATEVER THE INPUT: true; the input reads as it did. -/
def fnExactTurnVecSpec : ChangeSpec := { name := "fnExactTurnVec", fn := fun _ => fun
  | [d1, d2] => { results := [.lit (.bool true)], args := [d1, d2] }
  | _ => none }
def fnExactTurnVecRow : OpenClaim := { program := "ytekjjnmcccfckaa", sum := "334c17ba8b58b569e6706460a4ab306d80f816e9910a66d4b3b3a1651f7e578f", func := "loop.example/g00811/laws.FnExactTurnVec", spec := "fnExactTurnVec", apart := false }
def FnExactTurnVecSaid : Prop := fnExactTurnVecRow.holds Try.pinned (OpenSpec.ofChange fnExactTurnVecSpec)

/-- ITS FALSE NEIGHBOUR: 'it returns false'. Refute it at one input. -/
def fnExactTurnVecWrong : ChangeSpec := { name := "fnExactTurnVec", fn := fun _ => fun
  | [d1, d2] => { results := [.lit (.bool false)], args := [d1, d2] }
  | _ => none }
def FnExactTurnVecWrongFalsely : Prop := fnExactTurnVecRow.holds Try.pinned (OpenSpec.ofChange fnExactTurnVecWrong)

/-- 'laws.FnExactTurnsBetween': WHATEVER THE INPUT: true; the input reads as it did. -/
def fnExactTurnsBetweenSpec : ChangeSpec := { name := "fnExactTurnsBetween", fn := fun _ => fun
  | [d1, d2] => { results := [.lit (.bool true)], args := [d1, d2] }
  | _ => none }
def fnExactTurnsBetweenRow : OpenClaim := { program := "ytekjjnmcccfckaa", sum := "334c17ba8b58b569e6706460a4ab306d80f816e9910a66d4b3b3a1651f7e578f", func := "loop.example/g00811/laws.FnExactTurnsBetween", spec := "fnExactTurnsBetween", apart := false }
def FnExactTurnsBetweenSaid : Prop := fnExactTurnsBetweenRow.holds Try.pinned (OpenSpec.ofChange fnExactTurnsBetweenSpec)

/-- ITS FALSE NEIGHBOUR: 'it returns false'. Refute it at one input. -/
def fnExactTurnsBetweenWrong : ChangeSpec := { name := "fnExactTurnsBetween", fn := fun _ => fun
  | [d1, d2] => { results := [.lit (.bool false)], args := [d1, d2] }
  | _ => none }
def FnExactTurnsBetweenWrongFalsely : Prop := fnExactTurnsBetweenRow.holds Try.pinned (OpenSpec.ofChange fnExactTurnsBetweenWrong)

/-- 'laws.FnExactIsPolygon': WHATEVER THE INPUT: true; the input reads as it did. -/
def fnExactIsPolygonSpec : ChangeSpec := { name := "fnExactIsPolygon", fn := fun _ => fun
  | [d] => { results := [.lit (.bool true)], args := [d] }
  | _ => none }
def fnExactIsPolygonRow : OpenClaim := { program := "ytekjjnmcccfckaa", sum := "334c17ba8b58b569e6706460a4ab306d80f816e9910a66d4b3b3a1651f7e578f", func := "loop.example/g00811/laws.FnExactIsPolygon", spec := "fnExactIsPolygon", unfollowed := true, recurses := true, apart := false }
def FnExactIsPolygonSaid : Prop := fnExactIsPolygonRow.holds Try.pinned (OpenSpec.ofChange fnExactIsPolygonSpec)

/-- ITS FALSE NEIGHBOUR: 'it returns false'. Refute it at one input. -/
def fnExactIsPolygonWrong : ChangeSpec := { name := "fnExactIsPolygon", fn := fun _ => fun
  | [d] => { results := [.lit (.bool false)], args := [d] }
  | _ => none }
def FnExactIsPolygonWrongFalsely : Prop := fnExactIsPolygonRow.holds Try.pinned (OpenSpec.ofChange fnExactIsPolygonWrong)

/-- 'laws.FnExactNegatePolygon': WHATEVER THE INPUT: true; the input reads as it did. -/
def fnExactNegatePolygonSpec : ChangeSpec := { name := "fnExactNegatePolygon", fn := fun _ => fun
  | [d] => { results := [.lit (.bool true)], args := [d] }
  | _ => none }
def fnExactNegatePolygonRow : OpenClaim := { program := "ytekjjnmcccfckaa", sum := "334c17ba8b58b569e6706460a4ab306d80f816e9910a66d4b3b3a1651f7e578f", func := "loop.example/g00811/laws.FnExactNegatePolygon", spec := "fnExactNegatePolygon", unfollowed := true, recurses := true, apart := false }
def FnExactNegatePolygonSaid : Prop := fnExactNegatePolygonRow.holds Try.pinned (OpenSpec.ofChange fnExactNegatePolygonSpec)

/-- ITS FALSE NEIGHBOUR: 'it returns false'. Refute it at one input. -/
def fnExactNegatePolygonWrong : ChangeSpec := { name := "fnExactNegatePolygon", fn := fun _ => fun
  | [d] => { results := [.lit (.bool false)], args := [d] }
  | _ => none }
def FnExactNegatePolygonWrongFalsely : Prop := fnExactNegatePolygonRow.holds Try.pinned (OpenSpec.ofChange fnExactNegatePolygonWrong)

/-- 'laws.FnExactSamePolygon': WHATEVER THE INPUT: true; the input reads as it did. -/
def fnExactSamePolygonSpec : ChangeSpec := { name := "fnExactSamePolygon", fn := fun _ => fun
  | [d1, d2] => { results := [.lit (.bool true)], args := [d1, d2] }
  | _ => none }
def fnExactSamePolygonRow : OpenClaim := { program := "ytekjjnmcccfckaa", sum := "334c17ba8b58b569e6706460a4ab306d80f816e9910a66d4b3b3a1651f7e578f", func := "loop.example/g00811/laws.FnExactSamePolygon", spec := "fnExactSamePolygon", apart := false }
def FnExactSamePolygonSaid : Prop := fnExactSamePolygonRow.holds Try.pinned (OpenSpec.ofChange fnExactSamePolygonSpec)

/-- ITS FALSE NEIGHBOUR: 'it returns false'. Refute it at one input. -/
def fnExactSamePolygonWrong : ChangeSpec := { name := "fnExactSamePolygon", fn := fun _ => fun
  | [d1, d2] => { results := [.lit (.bool false)], args := [d1, d2] }
  | _ => none }
def FnExactSamePolygonWrongFalsely : Prop := fnExactSamePolygonRow.holds Try.pinned (OpenSpec.ofChange fnExactSamePolygonWrong)

/-- 'laws.FnExactMovePolygon': WHATEVER THE INPUT: true; the input reads as it did. -/
def fnExactMovePolygonSpec : ChangeSpec := { name := "fnExactMovePolygon", fn := fun _ => fun
  | [d1, d2] => { results := [.lit (.bool true)], args := [d1, d2] }
  | _ => none }
def fnExactMovePolygonRow : OpenClaim := { program := "ytekjjnmcccfckaa", sum := "334c17ba8b58b569e6706460a4ab306d80f816e9910a66d4b3b3a1651f7e578f", func := "loop.example/g00811/laws.FnExactMovePolygon", spec := "fnExactMovePolygon", unfollowed := true, recurses := true, apart := false }
def FnExactMovePolygonSaid : Prop := fnExactMovePolygonRow.holds Try.pinned (OpenSpec.ofChange fnExactMovePolygonSpec)

/-- ITS FALSE NEIGHBOUR: 'it returns false'. Refute it at one input. -/
def fnExactMovePolygonWrong : ChangeSpec := { name := "fnExactMovePolygon", fn := fun _ => fun
  | [d1, d2] => { results := [.lit (.bool false)], args := [d1, d2] }
  | _ => none }
def FnExactMovePolygonWrongFalsely : Prop := fnExactMovePolygonRow.holds Try.pinned (OpenSpec.ofChange fnExactMovePolygonWrong)

/-- 'laws.FnExactDoubleArea': WHATEVER THE INPUT: true; the input reads as it did. -/
def fnExactDoubleAreaSpec : ChangeSpec := { name := "fnExactDoubleArea", fn := fun _ => fun
  | [d] => { results := [.lit (.bool true)], args := [d] }
  | _ => none }
def fnExactDoubleAreaRow : OpenClaim := { program := "ytekjjnmcccfckaa", sum := "334c17ba8b58b569e6706460a4ab306d80f816e9910a66d4b3b3a1651f7e578f", func := "loop.example/g00811/laws.FnExactDoubleArea", spec := "fnExactDoubleArea", unfollowed := true, recurses := true, apart := false }
def FnExactDoubleAreaSaid : Prop := fnExactDoubleAreaRow.holds Try.pinned (OpenSpec.ofChange fnExactDoubleAreaSpec)

/-- ITS FALSE NEIGHBOUR: 'it returns false'. Refute it at one input. -/
def fnExactDoubleAreaWrong : ChangeSpec := { name := "fnExactDoubleArea", fn := fun _ => fun
  | [d] => { results := [.lit (.bool false)], args := [d] }
  | _ => none }
def FnExactDoubleAreaWrongFalsely : Prop := fnExactDoubleAreaRow.holds Try.pinned (OpenSpec.ofChange fnExactDoubleAreaWrong)

/-- 'laws.FnExactTurnPolygon': WHATEVER THE INPUT: true; the input reads as it did. -/
def fnExactTurnPolygonSpec : ChangeSpec := { name := "fnExactTurnPolygon", fn := fun _ => fun
  | [d1, d2] => { results := [.lit (.bool true)], args := [d1, d2] }
  | _ => none }
def fnExactTurnPolygonRow : OpenClaim := { program := "ytekjjnmcccfckaa", sum := "334c17ba8b58b569e6706460a4ab306d80f816e9910a66d4b3b3a1651f7e578f", func := "loop.example/g00811/laws.FnExactTurnPolygon", spec := "fnExactTurnPolygon", unfollowed := true, recurses := true, apart := false }
def FnExactTurnPolygonSaid : Prop := fnExactTurnPolygonRow.holds Try.pinned (OpenSpec.ofChange fnExactTurnPolygonSpec)

/-- ITS FALSE NEIGHBOUR: 'it returns false'. Refute it at one input. -/
def fnExactTurnPolygonWrong : ChangeSpec := { name := "fnExactTurnPolygon", fn := fun _ => fun
  | [d1, d2] => { results := [.lit (.bool false)], args := [d1, d2] }
  | _ => none }
def FnExactTurnPolygonWrongFalsely : Prop := fnExactTurnPolygonRow.holds Try.pinned (OpenSpec.ofChange fnExactTurnPolygonWrong)

/-- 'laws.FnExactReachSquare': WHATEVER THE INPUT: true; the input reads as it did. -/
def fnExactReachSquareSpec : ChangeSpec := { name := "fnExactReachSquare", fn := fun _ => fun
  | [d] => { results := [.lit (.bool true)], args := [d] }
  | _ => none }
def fnExactReachSquareRow : OpenClaim := { program := "ytekjjnmcccfckaa", sum := "334c17ba8b58b569e6706460a4ab306d80f816e9910a66d4b3b3a1651f7e578f", func := "loop.example/g00811/laws.FnExactReachSquare", spec := "fnExactReachSquare", unfollowed := true, recurses := true, apart := false }
def FnExactReachSquareSaid : Prop := fnExactReachSquareRow.holds Try.pinned (OpenSpec.ofChange fnExactReachSquareSpec)

/-- ITS FALSE NEIGHBOUR: 'it returns false'. Refute it at one input. -/
def fnExactReachSquareWrong : ChangeSpec := { name := "fnExactReachSquare", fn := fun _ => fun
  | [d] => { results := [.lit (.bool false)], args := [d] }
  | _ => none }
def FnExactReachSquareWrongFalsely : Prop := fnExactReachSquareRow.holds Try.pinned (OpenSpec.ofChange fnExactReachSquareWrong)

/- THE SECOND FORM. 'bulk': how many values and letters a reading holds, each counted each time it is reached (what is shared counts as often as it is met; a slice's spare places count too). A statement '..UptoSaid' is the law's where the arguments, and the package variables that the reading takes, are together of bulk at most 1048576: NARROWER than '..Said'. Prove '..Said' where nothing that the law and all that it calls make is longer than what came in: it says more and counts as full. Else prove '..UptoSaid'. A law counts once. -/
mutual
def uptoBulk {H : Type} : DataW H → Nat
  | .lit (.string bytes) => bytes.length + 1
  | .lit _ => 1
  | .nil => 1
  | .ptr d => uptoBulk d + 1
  | .slice elems spare => uptoBulkAll elems + uptoBulkAll spare + 1
  | .agg parts => uptoBulkAll parts + 1
  | .iface _ d => uptoBulk d + 1
  | .map entries => uptoBulkEntries entries + 1
  | .held _ => 1
def uptoBulkAll {H : Type} : List (DataW H) → Nat
  | [] => 0
  | d :: r => uptoBulk d + uptoBulkAll r
def uptoBulkEntries {H : Type} : List (Lit × DataW H) → Nat
  | [] => 0
  | x :: r => uptoBulkEntry x + uptoBulkEntries r
def uptoBulkEntry {H : Type} : Lit × DataW H → Nat
  | (.string bytes, d) => bytes.length + uptoBulk d + 1
  | (_, d) => uptoBulk d + 1
 end
def uptoSmall : (H : Type) → List (DataW H) → Bool := fun _ ds => decide (uptoBulkAll ds ≤ 1048576)
def OpenSpec.upto (s : _root_.Go.ChangeSpec) : _root_.Go.OpenSpec := { _root_.Go.OpenSpec.ofChange s with cond := some uptoSmall }

/-- 'laws.FnExactNextHeading', WHERE WHAT IT READS IS OF BULK AT MOST 1048576: true; the input reads as it did. -/
def fnExactNextHeadingUptoRow : OpenClaim := { program := "ytekjjnmcccfckaa", sum := "334c17ba8b58b569e6706460a4ab306d80f816e9910a66d4b3b3a1651f7e578f", func := "loop.example/g00811/laws.FnExactNextHeading", spec := "fnExactNextHeading", apart := false, narrowed := true }
def FnExactNextHeadingUptoSaid : Prop := fnExactNextHeadingUptoRow.holds Try.pinned (OpenSpec.upto fnExactNextHeadingSpec)

/-- 'laws.FnExactIsValidEdge', WHERE WHAT IT READS IS OF BULK AT MOST 1048576: true; the input reads as it did. -/
def fnExactIsValidEdgeUptoRow : OpenClaim := { program := "ytekjjnmcccfckaa", sum := "334c17ba8b58b569e6706460a4ab306d80f816e9910a66d4b3b3a1651f7e578f", func := "loop.example/g00811/laws.FnExactIsValidEdge", spec := "fnExactIsValidEdge", unfollowed := true, recurses := true, apart := false, narrowed := true }
def FnExactIsValidEdgeUptoSaid : Prop := fnExactIsValidEdgeUptoRow.holds Try.pinned (OpenSpec.upto fnExactIsValidEdgeSpec)

/-- 'laws.FnExactTurn', WHERE WHAT IT READS IS OF BULK AT MOST 1048576: true; the input reads as it did. -/
def fnExactTurnUptoRow : OpenClaim := { program := "ytekjjnmcccfckaa", sum := "334c17ba8b58b569e6706460a4ab306d80f816e9910a66d4b3b3a1651f7e578f", func := "loop.example/g00811/laws.FnExactTurn", spec := "fnExactTurn", unfollowed := true, recurses := true, apart := false, narrowed := true }
def FnExactTurnUptoSaid : Prop := fnExactTurnUptoRow.holds Try.pinned (OpenSpec.upto fnExactTurnSpec)

/-- 'laws.FnExactTurnVec', WHERE WHAT IT READS IS OF BULK AT MOST 1048576: true; the input reads as it did. -/
def fnExactTurnVecUptoRow : OpenClaim := { program := "ytekjjnmcccfckaa", sum := "334c17ba8b58b569e6706460a4ab306d80f816e9910a66d4b3b3a1651f7e578f", func := "loop.example/g00811/laws.FnExactTurnVec", spec := "fnExactTurnVec", apart := false, narrowed := true }
def FnExactTurnVecUptoSaid : Prop := fnExactTurnVecUptoRow.holds Try.pinned (OpenSpec.upto fnExactTurnVecSpec)

/-- 'laws.FnExactTurnsBetween', WHERE WHAT IT READS IS OF BULK AT MOST 1048576: true; the input reads as it did. -/
def fnExactTurnsBetweenUptoRow : OpenClaim := { program := "ytekjjnmcccfckaa", sum := "334c17ba8b58b569e6706460a4ab306d80f816e9910a66d4b3b3a1651f7e578f", func := "loop.example/g00811/laws.FnExactTurnsBetween", spec := "fnExactTurnsBetween", apart := false, narrowed := true }
def FnExactTurnsBetweenUptoSaid : Prop := fnExactTurnsBetweenUptoRow.holds Try.pinned (OpenSpec.upto fnExactTurnsBetweenSpec)

/-- 'laws.FnExactIsPolygon', WHERE WHAT IT READS IS OF BULK AT MOST 1048576: true; the input reads as it did. -/
def fnExactIsPolygonUptoRow : OpenClaim := { program := "ytekjjnmcccfckaa", sum := "334c17ba8b58b569e6706460a4ab306d80f816e9910a66d4b3b3a1651f7e578f", func := "loop.example/g00811/laws.FnExactIsPolygon", spec := "fnExactIsPolygon", unfollowed := true, recurses := true, apart := false, narrowed := true }
def FnExactIsPolygonUptoSaid : Prop := fnExactIsPolygonUptoRow.holds Try.pinned (OpenSpec.upto fnExactIsPolygonSpec)

/-- 'laws.FnExactNegatePolygon', WHERE WHAT IT READS IS OF BULK AT MOST 1048576: true; the input reads as it did. -/
def fnExactNegatePolygonUptoRow : OpenClaim := { program := "ytekjjnmcccfckaa", sum := "334c17ba8b58b569e6706460a4ab306d80f816e9910a66d4b3b3a1651f7e578f", func := "loop.example/g00811/laws.FnExactNegatePolygon", spec := "fnExactNegatePolygon", unfollowed := true, recurses := true, apart := false, narrowed := true }
def FnExactNegatePolygonUptoSaid : Prop := fnExactNegatePolygonUptoRow.holds Try.pinned (OpenSpec.upto fnExactNegatePolygonSpec)

/-- 'laws.FnExactSamePolygon', WHERE WHAT IT READS IS OF BULK AT MOST 1048576: true; the input reads as it did. -/
def fnExactSamePolygonUptoRow : OpenClaim := { program := "ytekjjnmcccfckaa", sum := "334c17ba8b58b569e6706460a4ab306d80f816e9910a66d4b3b3a1651f7e578f", func := "loop.example/g00811/laws.FnExactSamePolygon", spec := "fnExactSamePolygon", apart := false, narrowed := true }
def FnExactSamePolygonUptoSaid : Prop := fnExactSamePolygonUptoRow.holds Try.pinned (OpenSpec.upto fnExactSamePolygonSpec)

/-- 'laws.FnExactMovePolygon', WHERE WHAT IT READS IS OF BULK AT MOST 1048576: true; the input reads as it did. -/
def fnExactMovePolygonUptoRow : OpenClaim := { program := "ytekjjnmcccfckaa", sum := "334c17ba8b58b569e6706460a4ab306d80f816e9910a66d4b3b3a1651f7e578f", func := "loop.example/g00811/laws.FnExactMovePolygon", spec := "fnExactMovePolygon", unfollowed := true, recurses := true, apart := false, narrowed := true }
def FnExactMovePolygonUptoSaid : Prop := fnExactMovePolygonUptoRow.holds Try.pinned (OpenSpec.upto fnExactMovePolygonSpec)

/-- 'laws.FnExactDoubleArea', WHERE WHAT IT READS IS OF BULK AT MOST 1048576: true; the input reads as it did. -/
def fnExactDoubleAreaUptoRow : OpenClaim := { program := "ytekjjnmcccfckaa", sum := "334c17ba8b58b569e6706460a4ab306d80f816e9910a66d4b3b3a1651f7e578f", func := "loop.example/g00811/laws.FnExactDoubleArea", spec := "fnExactDoubleArea", unfollowed := true, recurses := true, apart := false, narrowed := true }
def FnExactDoubleAreaUptoSaid : Prop := fnExactDoubleAreaUptoRow.holds Try.pinned (OpenSpec.upto fnExactDoubleAreaSpec)

/-- 'laws.FnExactTurnPolygon', WHERE WHAT IT READS IS OF BULK AT MOST 1048576: true; the input reads as it did. -/
def fnExactTurnPolygonUptoRow : OpenClaim := { program := "ytekjjnmcccfckaa", sum := "334c17ba8b58b569e6706460a4ab306d80f816e9910a66d4b3b3a1651f7e578f", func := "loop.example/g00811/laws.FnExactTurnPolygon", spec := "fnExactTurnPolygon", unfollowed := true, recurses := true, apart := false, narrowed := true }
def FnExactTurnPolygonUptoSaid : Prop := fnExactTurnPolygonUptoRow.holds Try.pinned (OpenSpec.upto fnExactTurnPolygonSpec)

/-- 'laws.FnExactReachSquare', WHERE WHAT IT READS IS OF BULK AT MOST 1048576: true; the input reads as it did. -/
def fnExactReachSquareUptoRow : OpenClaim := { program := "ytekjjnmcccfckaa", sum := "334c17ba8b58b569e6706460a4ab306d80f816e9910a66d4b3b3a1651f7e578f", func := "loop.example/g00811/laws.FnExactReachSquare", spec := "fnExactReachSquare", unfollowed := true, recurses := true, apart := false, narrowed := true }
def FnExactReachSquareUptoSaid : Prop := fnExactReachSquareUptoRow.holds Try.pinned (OpenSpec.upto fnExactReachSquareSpec)

end Rows
end Go.Proofs.Ytekjjnmcccfckaa
