/-
  No cell of these rows narrows 'for every input' (looked for: loops, veiled, ifaces, maps, wideKeys, modest, calm, conditions, laid).
  DERIVED. THE GIVEN ROWS OF THIS SEAT. 9 by the template 'for every input the law returns true; each argument reads behind the call as it read before'; 0 by the template 'total and deterministic' (their statements: YtlidkddicnfmaaaTotals.lean).
  GIVEN WITH THE SEED: the statements are not yours to turn. If you find one false, say at which input.
  Laid BY PROGRAM, IN A SANDBOX (cutbox-rows.mjs): the forced cells as the released guide's own fill.sh prints them over the translation 6051f446bf7b600c… (all of the seat's roots in one cut). By AI agents, Wed Nov 11 2026. No macro, syntax, notation, axiom, sorry.
-/
import Derived.Test.YtlidkddicnfmaaaChecked
import GoSem.Claim
import GoSem.ClaimJoined
import GoSem.ClaimMapViews
import Derived.JoinedTies
import Derived.KernelRfl
namespace Go.Proofs.Ytlidkddicnfmaaa
/- THE CELL 'sum', in the pinned program and in every row, IS THE sha256 OF THE DUMP (.gsa) THAT YtlidkddicnfmaaaProg.lean LOADS. Nothing in Lean hashes anything: it is a label: what it is worth is what the hold of that sum in a sandbox is worth. -/
noncomputable def Try.pinned : Pinned := { name := "ytlidkddicnfmaaa", sum := "6051f446bf7b600cc4864836c5354874df569215160c282c6bbda4e6e220115d", checked := Try.checked }
namespace Rows
def none {H : Type} : Left H := { results := [], args := [] }

/-- 'laws.FnExactWidthOf': WHATEVER THE INPUT: true; the input reads as it did. -/
def fnExactWidthOfSpec : ChangeSpec := { name := "fnExactWidthOf", fn := fun _ => fun
  | [d] => { results := [.lit (.bool true)], args := [d] }
  | _ => none }
def fnExactWidthOfRow : OpenClaim := { program := "ytlidkddicnfmaaa", sum := "6051f446bf7b600cc4864836c5354874df569215160c282c6bbda4e6e220115d", func := "loop.example/g00811/laws.FnExactWidthOf", spec := "fnExactWidthOf", unfollowed := true, recurses := true, apart := false }
def FnExactWidthOfSaid : Prop := fnExactWidthOfRow.holds Try.pinned (OpenSpec.ofChange fnExactWidthOfSpec)

/-- ITS FALSE NEIGHBOUR: 'it returns false'. Refute it at one input. -/
def fnExactWidthOfWrong : ChangeSpec := { name := "fnExactWidthOf", fn := fun _ => fun
  | [d] => { results := [.lit (.bool false)], args := [d] }
  | _ => none }
def FnExactWidthOfWrongFalsely : Prop := fnExactWidthOfRow.holds Try.pinned (OpenSpec.ofChange fnExactWidthOfWrong)

/-- 'laws.FnExactMoveToOrigin': WHATEVER THE INPUT: true; the input reads as it did. -/
def fnExactMoveToOriginSpec : ChangeSpec := { name := "fnExactMoveToOrigin", fn := fun _ => fun
  | [d] => { results := [.lit (.bool true)], args := [d] }
  | _ => none }
def fnExactMoveToOriginRow : OpenClaim := { program := "ytlidkddicnfmaaa", sum := "6051f446bf7b600cc4864836c5354874df569215160c282c6bbda4e6e220115d", func := "loop.example/g00811/laws.FnExactMoveToOrigin", spec := "fnExactMoveToOrigin", unfollowed := true, recurses := true, apart := false }
def FnExactMoveToOriginSaid : Prop := fnExactMoveToOriginRow.holds Try.pinned (OpenSpec.ofChange fnExactMoveToOriginSpec)

/-- ITS FALSE NEIGHBOUR: 'it returns false'. Refute it at one input. -/
def fnExactMoveToOriginWrong : ChangeSpec := { name := "fnExactMoveToOrigin", fn := fun _ => fun
  | [d] => { results := [.lit (.bool false)], args := [d] }
  | _ => none }
def FnExactMoveToOriginWrongFalsely : Prop := fnExactMoveToOriginRow.holds Try.pinned (OpenSpec.ofChange fnExactMoveToOriginWrong)

/-- 'laws.FnTurns': WHATEVER THE INPUT: true; the input reads as it did. -/
def fnTurnsSpec : ChangeSpec := { name := "fnTurns", fn := fun _ => fun
  | [d] => { results := [.lit (.bool true)], args := [d] }
  | _ => none }
def fnTurnsRow : OpenClaim := { program := "ytlidkddicnfmaaa", sum := "6051f446bf7b600cc4864836c5354874df569215160c282c6bbda4e6e220115d", func := "loop.example/g00811/laws.FnTurns", spec := "fnTurns", unfollowed := true, recurses := true, apart := false }
def FnTurnsSaid : Prop := fnTurnsRow.holds Try.pinned (OpenSpec.ofChange fnTurnsSpec)

/-- ITS FALSE NEIGHBOUR: 'it returns false'. Refute it at one input. -/
def fnTurnsWrong : ChangeSpec := { name := "fnTurns", fn := fun _ => fun
  | [d] => { results := [.lit (.bool false)], args := [d] }
  | _ => none }
def FnTurnsWrongFalsely : Prop := fnTurnsRow.holds Try.pinned (OpenSpec.ofChange fnTurnsWrong)

/-- 'laws.FnExactAddObstacle': WHATEVER THE INPUT: true; the input reads as it did. -/
def fnExactAddObstacleSpec : ChangeSpec := { name := "fnExactAddObstacle", fn := fun _ => fun
  | [d1, d2] => { results := [.lit (.bool true)], args := [d1, d2] }
  | _ => none }
def fnExactAddObstacleRow : OpenClaim := { program := "ytlidkddicnfmaaa", sum := "6051f446bf7b600cc4864836c5354874df569215160c282c6bbda4e6e220115d", func := "loop.example/g00811/laws.FnExactAddObstacle", spec := "fnExactAddObstacle", unfollowed := true, recurses := true, apart := false }
def FnExactAddObstacleSaid : Prop := fnExactAddObstacleRow.holds Try.pinned (OpenSpec.ofChange fnExactAddObstacleSpec)

/-- ITS FALSE NEIGHBOUR: 'it returns false'. Refute it at one input. -/
def fnExactAddObstacleWrong : ChangeSpec := { name := "fnExactAddObstacle", fn := fun _ => fun
  | [d1, d2] => { results := [.lit (.bool false)], args := [d1, d2] }
  | _ => none }
def FnExactAddObstacleWrongFalsely : Prop := fnExactAddObstacleRow.holds Try.pinned (OpenSpec.ofChange fnExactAddObstacleWrong)

/-- 'laws.FnExactSameSlice': WHATEVER THE INPUT: true; the input reads as it did. -/
def fnExactSameSliceSpec : ChangeSpec := { name := "fnExactSameSlice", fn := fun _ => fun
  | [d1, d2] => { results := [.lit (.bool true)], args := [d1, d2] }
  | _ => none }
def fnExactSameSliceRow : OpenClaim := { program := "ytlidkddicnfmaaa", sum := "6051f446bf7b600cc4864836c5354874df569215160c282c6bbda4e6e220115d", func := "loop.example/g00811/laws.FnExactSameSlice", spec := "fnExactSameSlice", unfollowed := true, recurses := true, apart := false }
def FnExactSameSliceSaid : Prop := fnExactSameSliceRow.holds Try.pinned (OpenSpec.ofChange fnExactSameSliceSpec)

/-- ITS FALSE NEIGHBOUR: 'it returns false'. Refute it at one input. -/
def fnExactSameSliceWrong : ChangeSpec := { name := "fnExactSameSlice", fn := fun _ => fun
  | [d1, d2] => { results := [.lit (.bool false)], args := [d1, d2] }
  | _ => none }
def FnExactSameSliceWrongFalsely : Prop := fnExactSameSliceRow.holds Try.pinned (OpenSpec.ofChange fnExactSameSliceWrong)

/-- 'laws.FnExactSameRoad': WHATEVER THE INPUT: true; the input reads as it did. -/
def fnExactSameRoadSpec : ChangeSpec := { name := "fnExactSameRoad", fn := fun _ => fun
  | [d1, d2] => { results := [.lit (.bool true)], args := [d1, d2] }
  | _ => none }
def fnExactSameRoadRow : OpenClaim := { program := "ytlidkddicnfmaaa", sum := "6051f446bf7b600cc4864836c5354874df569215160c282c6bbda4e6e220115d", func := "loop.example/g00811/laws.FnExactSameRoad", spec := "fnExactSameRoad", unfollowed := true, recurses := true, apart := false }
def FnExactSameRoadSaid : Prop := fnExactSameRoadRow.holds Try.pinned (OpenSpec.ofChange fnExactSameRoadSpec)

/-- ITS FALSE NEIGHBOUR: 'it returns false'. Refute it at one input. -/
def fnExactSameRoadWrong : ChangeSpec := { name := "fnExactSameRoad", fn := fun _ => fun
  | [d1, d2] => { results := [.lit (.bool false)], args := [d1, d2] }
  | _ => none }
def FnExactSameRoadWrongFalsely : Prop := fnExactSameRoadRow.holds Try.pinned (OpenSpec.ofChange fnExactSameRoadWrong)

/-- 'laws.FnExactCountParts': WHATEVER THE INPUT: true; the input reads as it did. -/
def fnExactCountPartsSpec : ChangeSpec := { name := "fnExactCountParts", fn := fun _ => fun
  | [d] => { results := [.lit (.bool true)], args := [d] }
  | _ => none }
def fnExactCountPartsRow : OpenClaim := { program := "ytlidkddicnfmaaa", sum := "6051f446bf7b600cc4864836c5354874df569215160c282c6bbda4e6e220115d", func := "loop.example/g00811/laws.FnExactCountParts", spec := "fnExactCountParts", recurses := true, apart := false }
def FnExactCountPartsSaid : Prop := fnExactCountPartsRow.holds Try.pinned (OpenSpec.ofChange fnExactCountPartsSpec)

/-- ITS FALSE NEIGHBOUR: 'it returns false'. Refute it at one input. -/
def fnExactCountPartsWrong : ChangeSpec := { name := "fnExactCountParts", fn := fun _ => fun
  | [d] => { results := [.lit (.bool false)], args := [d] }
  | _ => none }
def FnExactCountPartsWrongFalsely : Prop := fnExactCountPartsRow.holds Try.pinned (OpenSpec.ofChange fnExactCountPartsWrong)

/-- 'laws.FnExactRegionCount': WHATEVER THE INPUT: true; the input reads as it did. -/
def fnExactRegionCountSpec : ChangeSpec := { name := "fnExactRegionCount", fn := fun _ => fun
  | [d] => { results := [.lit (.bool true)], args := [d] }
  | _ => none }
def fnExactRegionCountRow : OpenClaim := { program := "ytlidkddicnfmaaa", sum := "6051f446bf7b600cc4864836c5354874df569215160c282c6bbda4e6e220115d", func := "loop.example/g00811/laws.FnExactRegionCount", spec := "fnExactRegionCount", recurses := true, apart := false }
def FnExactRegionCountSaid : Prop := fnExactRegionCountRow.holds Try.pinned (OpenSpec.ofChange fnExactRegionCountSpec)

/-- ITS FALSE NEIGHBOUR: 'it returns false'. Refute it at one input. -/
def fnExactRegionCountWrong : ChangeSpec := { name := "fnExactRegionCount", fn := fun _ => fun
  | [d] => { results := [.lit (.bool false)], args := [d] }
  | _ => none }
def FnExactRegionCountWrongFalsely : Prop := fnExactRegionCountRow.holds Try.pinned (OpenSpec.ofChange fnExactRegionCountWrong)

/-- 'laws.FnExactRegionsFrom': WHATEVER THE INPUT: true; the input reads as it did. -/
def fnExactRegionsFromSpec : ChangeSpec := { name := "fnExactRegionsFrom", fn := fun _ => fun
  | [d1, d2] => { results := [.lit (.bool true)], args := [d1, d2] }
  | _ => none }
def fnExactRegionsFromRow : OpenClaim := { program := "ytlidkddicnfmaaa", sum := "6051f446bf7b600cc4864836c5354874df569215160c282c6bbda4e6e220115d", func := "loop.example/g00811/laws.FnExactRegionsFrom", spec := "fnExactRegionsFrom", recurses := true, apart := false }
def FnExactRegionsFromSaid : Prop := fnExactRegionsFromRow.holds Try.pinned (OpenSpec.ofChange fnExactRegionsFromSpec)

/-- ITS FALSE NEIGHBOUR: 'it returns false'. Refute it at one input. -/
def fnExactRegionsFromWrong : ChangeSpec := { name := "fnExactRegionsFrom", fn := fun _ => fun
  | [d1, d2] => { results := [.lit (.bool false)], args := [d1, d2] }
  | _ => none }
def FnExactRegionsFromWrongFalsely : Prop := fnExactRegionsFromRow.holds Try.pinned (OpenSpec.ofChange fnExactRegionsFromWrong)

/- THE SECOND FORM. 'bulk': how many values and letters a reading holds, each counted each time it is reached (what is shared counts as often as it is met; a slice's spare places count too). A statement '..UptoSaid' is the law's where the arguments, and the package variables that the reading takes, are together of bulk at most 1048576: NARROWER than '..Said'. Prove '..Said' where nothing that the law and all that it calls make is longer than what came in: it says more and counts as full. Else prove '..UptoSaid'. A law counts once. -/
mutual
def uptoBulk {H : Type} : DataW H → Nat
  | .lit (.string bytes) => bytes.length + 1
  | .lit _ => 1
  | .nil => 1
  | .ptr d => uptoBulk d + 1
  | .slice elems spare => uptoBulkAll elems + uptoBulkAll spare + 1
  | .agg parts => uptoBulkAll parts + 1
  | .iface _ d => uptoBulk d + 1
  | .map entries => uptoBulkEntries entries + 1
  | .held _ => 1
def uptoBulkAll {H : Type} : List (DataW H) → Nat
  | [] => 0
  | d :: r => uptoBulk d + uptoBulkAll r
def uptoBulkEntries {H : Type} : List (Lit × DataW H) → Nat
  | [] => 0
  | x :: r => uptoBulkEntry x + uptoBulkEntries r
def uptoBulkEntry {H : Type} : Lit × DataW H → Nat
  | (.string bytes, d) => bytes.length + uptoBulk d + 1
  | (_, d) => uptoBulk d + 1
 end
def uptoSmall : (H : Type) → List (DataW H) → Bool := fun _ ds => decide (uptoBulkAll ds ≤ 1048576)
def OpenSpec.upto (s : _root_.Go.ChangeSpec) : _root_.Go.OpenSpec := { _root_.Go.OpenSpec.ofChange s with cond := some uptoSmall }

/-- 'laws.FnExactWidthOf', WHERE WHAT IT READS IS OF BULK AT MOST 1048576: true; the input reads as it did. -/
def fnExactWidthOfUptoRow : OpenClaim := { program := "ytlidkddicnfmaaa", sum := "6051f446bf7b600cc4864836c5354874df569215160c282c6bbda4e6e220115d", func := "loop.example/g00811/laws.FnExactWidthOf", spec := "fnExactWidthOf", unfollowed := true, recurses := true, apart := false, narrowed := true }
def FnExactWidthOfUptoSaid : Prop := fnExactWidthOfUptoRow.holds Try.pinned (OpenSpec.upto fnExactWidthOfSpec)

/-- 'laws.FnExactMoveToOrigin', WHERE WHAT IT READS IS OF BULK AT MOST 1048576: true; the input reads as it did. -/
def fnExactMoveToOriginUptoRow : OpenClaim := { program := "ytlidkddicnfmaaa", sum := "6051f446bf7b600cc4864836c5354874df569215160c282c6bbda4e6e220115d", func := "loop.example/g00811/laws.FnExactMoveToOrigin", spec := "fnExactMoveToOrigin", unfollowed := true, recurses := true, apart := false, narrowed := true }
def FnExactMoveToOriginUptoSaid : Prop := fnExactMoveToOriginUptoRow.holds Try.pinned (OpenSpec.upto fnExactMoveToOriginSpec)

/-- 'laws.FnTurns', WHERE WHAT IT READS IS OF BULK AT MOST 1048576: true; the input reads as it did. -/
def fnTurnsUptoRow : OpenClaim := { program := "ytlidkddicnfmaaa", sum := "6051f446bf7b600cc4864836c5354874df569215160c282c6bbda4e6e220115d", func := "loop.example/g00811/laws.FnTurns", spec := "fnTurns", unfollowed := true, recurses := true, apart := false, narrowed := true }
def FnTurnsUptoSaid : Prop := fnTurnsUptoRow.holds Try.pinned (OpenSpec.upto fnTurnsSpec)

/-- 'laws.FnExactAddObstacle', WHERE WHAT IT READS IS OF BULK AT MOST 1048576: true; the input reads as it did. -/
def fnExactAddObstacleUptoRow : OpenClaim := { program := "ytlidkddicnfmaaa", sum := "6051f446bf7b600cc4864836c5354874df569215160c282c6bbda4e6e220115d", func := "loop.example/g00811/laws.FnExactAddObstacle", spec := "fnExactAddObstacle", unfollowed := true, recurses := true, apart := false, narrowed := true }
def FnExactAddObstacleUptoSaid : Prop := fnExactAddObstacleUptoRow.holds Try.pinned (OpenSpec.upto fnExactAddObstacleSpec)

/-- 'laws.FnExactSameSlice', WHERE WHAT IT READS IS OF BULK AT MOST 1048576: true; the input reads as it did. -/
def fnExactSameSliceUptoRow : OpenClaim := { program := "ytlidkddicnfmaaa", sum := "6051f446bf7b600cc4864836c5354874df569215160c282c6bbda4e6e220115d", func := "loop.example/g00811/laws.FnExactSameSlice", spec := "fnExactSameSlice", unfollowed := true, recurses := true, apart := false, narrowed := true }
def FnExactSameSliceUptoSaid : Prop := fnExactSameSliceUptoRow.holds Try.pinned (OpenSpec.upto fnExactSameSliceSpec)

/-- 'laws.FnExactSameRoad', WHERE WHAT IT READS IS OF BULK AT MOST 1048576: true; the input reads as it did. -/
def fnExactSameRoadUptoRow : OpenClaim := { program := "ytlidkddicnfmaaa", sum := "6051f446bf7b600cc4864836c5354874df569215160c282c6bbda4e6e220115d", func := "loop.example/g00811/laws.FnExactSameRoad", spec := "fnExactSameRoad", unfollowed := true, recurses := true, apart := false, narrowed := true }
def FnExactSameRoadUptoSaid : Prop := fnExactSameRoadUptoRow.holds Try.pinned (OpenSpec.upto fnExactSameRoadSpec)

/-- 'laws.FnExactCountParts', WHERE WHAT IT READS IS OF BULK AT MOST 1048576: true; the input reads as it did. -/
def fnExactCountPartsUptoRow : OpenClaim := { program := "ytlidkddicnfmaaa", sum := "6051f446bf7b600cc4864836c5354874df569215160c282c6bbda4e6e220115d", func := "loop.example/g00811/laws.FnExactCountParts", spec := "fnExactCountParts", recurses := true, apart := false, narrowed := true }
def FnExactCountPartsUptoSaid : Prop := fnExactCountPartsUptoRow.holds Try.pinned (OpenSpec.upto fnExactCountPartsSpec)

/-- 'laws.FnExactRegionCount', WHERE WHAT IT READS IS OF BULK AT MOST 1048576: true; the input reads as it did. -/
def fnExactRegionCountUptoRow : OpenClaim := { program := "ytlidkddicnfmaaa", sum := "6051f446bf7b600cc4864836c5354874df569215160c282c6bbda4e6e220115d", func := "loop.example/g00811/laws.FnExactRegionCount", spec := "fnExactRegionCount", recurses := true, apart := false, narrowed := true }
def FnExactRegionCountUptoSaid : Prop := fnExactRegionCountUptoRow.holds Try.pinned (OpenSpec.upto fnExactRegionCountSpec)

/-- 'laws.FnExactRegionsFrom', WHERE WHAT IT READS IS OF BULK AT MOST 1048576: true; the input reads as it did. -/
def fnExactRegionsFromUptoRow : OpenClaim := { program := "ytlidkddicnfmaaa", sum := "6051f446bf7b600cc4864836c5354874df569215160c282c6bbda4e6e220115d", func := "loop.example/g00811/laws.FnExactRegionsFrom", spec := "fnExactRegionsFrom", recurses := true, apart := false, narrowed := true }
def FnExactRegionsFromUptoSaid : Prop := fnExactRegionsFromUptoRow.holds Try.pinned (OpenSpec.upto fnExactRegionsFromSpec)

end Rows
end Go.Proofs.Ytlidkddicnfmaaa
