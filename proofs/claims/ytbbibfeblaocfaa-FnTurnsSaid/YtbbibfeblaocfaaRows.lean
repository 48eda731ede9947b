/-
  No cell of these rows narrows 'for every input' (looked for: loops, veiled, ifaces, maps, wideKeys, modest, calm, conditions, laid).
  DERIVED. THE GIVEN ROWS OF THIS SEAT. 6 by the template 'for every input the law returns true; each argument reads behind the call as it read before'; 0 by the template 'total and deterministic' (their statements: YtbbibfeblaocfaaTotals.lean).
  GIVEN WITH THE SEED: the statements are not yours to turn. If you find one false, say at which input.
  Laid BY PROGRAM, IN A SANDBOX (cutbox-rows.mjs): the forced cells as the released guide's own fill.sh prints them over the translation aa3046f0bf2442c1… (all of the seat's roots in one cut). By AI agents, Wed Nov 11 2026. No macro, syntax, notation, axiom, sorry.
-/
import Derived.Test.YtbbibfeblaocfaaChecked
import GoSem.Claim
import GoSem.ClaimJoined
import GoSem.ClaimMapViews
import Derived.JoinedTies
import Derived.KernelRfl
namespace Go.Proofs.Ytbbibfeblaocfaa
/- THE CELL 'sum', in the pinned program and in every row, IS THE sha256 OF THE DUMP (.gsa) THAT YtbbibfeblaocfaaProg.lean LOADS. Nothing in Lean hashes anything: it is a label: what it is worth is what the hold of that sum in a sandbox is worth. -/
noncomputable def Try.pinned : Pinned := { name := "ytbbibfeblaocfaa", sum := "aa3046f0bf2442c1d4dbde44d0bb377886fcef6a35e113ea793f5b77fb099ee4", checked := Try.checked }
namespace Rows
def none {H : Type} : Left H := { results := [], args := [] }

/-- 'laws.FnTurns': WHATEVER THE INPUT: true; the input reads as it did. -/
def fnTurnsSpec : ChangeSpec := { name := "fnTurns", fn := fun _ => fun
  | [d] => { results := [.lit (.bool true)], args := [d] }
  | _ => none }
def fnTurnsRow : OpenClaim := { program := "ytbbibfeblaocfaa", sum := "aa3046f0bf2442c1d4dbde44d0bb377886fcef6a35e113ea793f5b77fb099ee4", func := "loop.example/g00811/laws.FnTurns", spec := "fnTurns", unfollowed := true, recurses := true, apart := false }
def FnTurnsSaid : Prop := fnTurnsRow.holds Try.pinned (OpenSpec.ofChange fnTurnsSpec)

/-- ITS FALSE NEIGHBOUR: 'it returns false'. Refute it at one input. -/
def fnTurnsWrong : ChangeSpec := { name := "fnTurns", fn := fun _ => fun
  | [d] => { results := [.lit (.bool false)], args := [d] }
  | _ => none }
def FnTurnsWrongFalsely : Prop := fnTurnsRow.holds Try.pinned (OpenSpec.ofChange fnTurnsWrong)

/-- 'laws.FnExactAddObstacle': WHATEVER THE INPUT: true; the input reads as it did. -/
def fnExactAddObstacleSpec : ChangeSpec := { name := "fnExactAddObstacle", fn := fun _ => fun
  | [d1, d2] => { results := [.lit (.bool true)], args := [d1, d2] }
  | _ => none }
def fnExactAddObstacleRow : OpenClaim := { program := "ytbbibfeblaocfaa", sum := "aa3046f0bf2442c1d4dbde44d0bb377886fcef6a35e113ea793f5b77fb099ee4", func := "loop.example/g00811/laws.FnExactAddObstacle", spec := "fnExactAddObstacle", unfollowed := true, recurses := true, apart := false }
def FnExactAddObstacleSaid : Prop := fnExactAddObstacleRow.holds Try.pinned (OpenSpec.ofChange fnExactAddObstacleSpec)

/-- ITS FALSE NEIGHBOUR: 'it returns false'. Refute it at one input. -/
def fnExactAddObstacleWrong : ChangeSpec := { name := "fnExactAddObstacle", fn := fun _ => fun
  | [d1, d2] => { results := [.lit (.bool false)], args := [d1, d2] }
  | _ => none }
def FnExactAddObstacleWrongFalsely : Prop := fnExactAddObstacleRow.holds Try.pinned (OpenSpec.ofChange fnExactAddObstacleWrong)

/-- 'laws.FnExactSameSlice': WHATEVER THE INPUT: true; the input reads as it did. -/
def fnExactSameSliceSpec : ChangeSpec := { name := "fnExactSameSlice", fn := fun _ => fun
  | [d1, d2] => { results := [.lit (.bool true)], args := [d1, d2] }
  | _ => none }
def fnExactSameSliceRow : OpenClaim := { program := "ytbbibfeblaocfaa", sum := "aa3046f0bf2442c1d4dbde44d0bb377886fcef6a35e113ea793f5b77fb099ee4", func := "loop.example/g00811/laws.FnExactSameSlice", spec := "fnExactSameSlice", unfollowed := true, recurses := true, apart := false }
def FnExactSameSliceSaid : Prop := fnExactSameSliceRow.holds Try.pinned (OpenSpec.ofChange fnExactSameSliceSpec)

/-- ITS FALSE NEIGHBOUR: 'it returns false'. Refute it at one input. -/
def fnExactSameSliceWrong : ChangeSpec := { name := "fnExactSameSlice", fn := fun _ => fun
  | [d1, d2] => { results := [.lit (.bool false)], args := [d1, d2] }
  | _ => none }
def FnExactSameSliceWrongFalsely : Prop := fnExactSameSliceRow.holds Try.pinned (OpenSpec.ofChange fnExactSameSliceWrong)

/-- 'laws.FnExactSameRoad': WHATEVER THE INPUT: true; the input reads as it did. -/
def fnExactSameRoadSpec : ChangeSpec := { name := "fnExactSameRoad", fn := fun _ => fun
  | [d1, d2] => { results := [.lit (.bool true)], args := [d1, d2] }
  | _ => none }
def fnExactSameRoadRow : OpenClaim := { program := "ytbbibfeblaocfaa", sum := "aa3046f0bf2442c1d4dbde44d0bb377886fcef6a35e113ea793f5b77fb099ee4", func := "loop.example/g00811/laws.FnExactSameRoad", spec := "fnExactSameRoad", unfollowed := true, recurses := true, apart := false }
def FnExactSameRoadSaid : Prop := fnExactSameRoadRow.holds Try.pinned (OpenSpec.ofChange fnExactSameRoadSpec)

/-- ITS FALSE NEIGHBOUR: 'it returns false'. Refute it at one input. -/
def fnExactSameRoadWrong : ChangeSpec := { name := "fnExactSameRoad", fn := fun _ => fun
  | [d1, d2] => { results := [.lit (.bool false)], args := [d1, d2] }
  | _ => none }
def FnExactSameRoadWrongFalsely : Prop := fnExactSameRoadRow.holds Try.pinned (OpenSpec.ofChange fnExactSameRoadWrong)

/-- 'laws.FnExactRegionsFrom': WHATEVER THE INPUT: true; the input reads as it did. -/
def fnExactRegionsFromSpec : ChangeSpec := { name := "fnExactRegionsFrom", fn := fun _ => fun
  | [d1, d2] => { results := [.lit (.bool true)], args := [d1, d2] }
  | _ => none }
def fnExactRegionsFromRow : OpenClaim := { program := "ytbbibfeblaocfaa", sum := "aa3046f0bf2442c1d4dbde44d0bb377886fcef6a35e113ea793f5b77fb099ee4", func := "loop.example/g00811/laws.FnExactRegionsFrom", spec := "fnExactRegionsFrom", recurses := true, apart := false }
def FnExactRegionsFromSaid : Prop := fnExactRegionsFromRow.holds Try.pinned (OpenSpec.ofChange fnExactRegionsFromSpec)

/-- ITS FALSE NEIGHBOUR: 'it returns false'. Refute it at one input. -/
def fnExactRegionsFromWrong : ChangeSpec := { name := "fnExactRegionsFrom", fn := fun _ => fun
  | [d1, d2] => { results := [.lit (.bool false)], args := [d1, d2] }
  | _ => none }
def FnExactRegionsFromWrongFalsely : Prop := fnExactRegionsFromRow.holds Try.pinned (OpenSpec.ofChange fnExactRegionsFromWrong)

/-- 'laws.FnExactCellSide': WHATEVER THE INPUT: true; the input reads as it did. -/
def fnExactCellSideSpec : ChangeSpec := { name := "fnExactCellSide", fn := fun _ => fun
  | [d1, d2] => { results := [.lit (.bool true)], args := [d1, d2] }
  | _ => none }
def fnExactCellSideRow : OpenClaim := { program := "ytbbibfeblaocfaa", sum := "aa3046f0bf2442c1d4dbde44d0bb377886fcef6a35e113ea793f5b77fb099ee4", func := "loop.example/g00811/laws.FnExactCellSide", spec := "fnExactCellSide", apart := false }
def FnExactCellSideSaid : Prop := fnExactCellSideRow.holds Try.pinned (OpenSpec.ofChange fnExactCellSideSpec)

/-- ITS FALSE NEIGHBOUR: 'it returns false'. Refute it at one input. -/
def fnExactCellSideWrong : ChangeSpec := { name := "fnExactCellSide", fn := fun _ => fun
  | [d1, d2] => { results := [.lit (.bool false)], args := [d1, d2] }
  | _ => none }
def FnExactCellSideWrongFalsely : Prop := fnExactCellSideRow.holds Try.pinned (OpenSpec.ofChange fnExactCellSideWrong)

/- THE SECOND FORM. 'bulk': how many values and letters a reading holds, each counted each time it is reached (what is shared counts as often as it is met; a slice's spare places count too). A statement '..UptoSaid' is the law's where the arguments, and the package variables that the reading takes, are together of bulk at most 1048576: NARROWER than '..Said'. Prove '..Said' where nothing that the law and all that it calls make is longer than what came in: it says more and counts as full. Else prove '..UptoSaid'. A law counts once. -/
mutual
def uptoBulk {H : Type} : DataW H → Nat
  | .lit (.string bytes) => bytes.length + 1
  | .lit _ => 1
  | .nil => 1
  | .ptr d => uptoBulk d + 1
  | .slice elems spare => uptoBulkAll elems + uptoBulkAll spare + 1
  | .agg parts => uptoBulkAll parts + 1
  | .iface _ d => uptoBulk d + 1
  | .map entries => uptoBulkEntries entries + 1
  | .held _ => 1
def uptoBulkAll {H : Type} : List (DataW H) → Nat
  | [] => 0
  | d :: r => uptoBulk d + uptoBulkAll r
def uptoBulkEntries {H : Type} : List (Lit × DataW H) → Nat
  | [] => 0
  | x :: r => uptoBulkEntry x + uptoBulkEntries r
def uptoBulkEntry {H : Type} : Lit × DataW H → Nat
  | (.string bytes, d) => bytes.length + uptoBulk d + 1
  | (_, d) => uptoBulk d + 1
 end
def uptoSmall : (H : Type) → List (DataW H) → Bool := fun _ ds => decide (uptoBulkAll ds ≤ 1048576)
def OpenSpec.upto (s : _root_.Go.ChangeSpec) : _root_.Go.OpenSpec := { _root_.Go.OpenSpec.ofChange s with cond := some uptoSmall }

/-- 'laws.FnTurns', WHERE WHAT IT READS IS OF BULK AT MOST 1048576: true; the input reads as it did. -/
def fnTurnsUptoRow : OpenClaim := { program := "ytbbibfeblaocfaa", sum := "aa3046f0bf2442c1d4dbde44d0bb377886fcef6a35e113ea793f5b77fb099ee4", func := "loop.example/g00811/laws.FnTurns", spec := "fnTurns", unfollowed := true, recurses := true, apart := false, narrowed := true }
def FnTurnsUptoSaid : Prop := fnTurnsUptoRow.holds Try.pinned (OpenSpec.upto fnTurnsSpec)

/-- 'laws.FnExactAddObstacle', WHERE WHAT IT READS IS OF BULK AT MOST 1048576: true; the input reads as it did. -/
def fnExactAddObstacleUptoRow : OpenClaim := { program := "ytbbibfeblaocfaa", sum := "aa3046f0bf2442c1d4dbde44d0bb377886fcef6a35e113ea793f5b77fb099ee4", func := "loop.example/g00811/laws.FnExactAddObstacle", spec := "fnExactAddObstacle", unfollowed := true, recurses := true, apart := false, narrowed := true }
def FnExactAddObstacleUptoSaid : Prop := fnExactAddObstacleUptoRow.holds Try.pinned (OpenSpec.upto fnExactAddObstacleSpec)

/-- 'laws.FnExactSameSlice', WHERE WHAT IT READS IS OF BULK AT MOST 1048576: true; the input reads as it did. -/
def fnExactSameSliceUptoRow : OpenClaim := { program := "ytbbibfeblaocfaa", sum := "aa3046f0bf2442c1d4dbde44d0bb377886fcef6a35e113ea793f5b77fb099ee4", func := "loop.example/g00811/laws.FnExactSameSlice", spec := "fnExactSameSlice", unfollowed := true, recurses := true, apart := false, narrowed := true }
def FnExactSameSliceUptoSaid : Prop := fnExactSameSliceUptoRow.holds Try.pinned (OpenSpec.upto fnExactSameSliceSpec)

/-- 'laws.FnExactSameRoad', WHERE WHAT IT READS IS OF BULK AT MOST 1048576: true; the input reads as it did. -/
def fnExactSameRoadUptoRow : OpenClaim := { program := "ytbbibfeblaocfaa", sum := "aa3046f0bf2442c1d4dbde44d0bb377886fcef6a35e113ea793f5b77fb099ee4", func := "loop.example/g00811/laws.FnExactSameRoad", spec := "fnExactSameRoad", unfollowed := true, recurses := true, apart := false, narrowed := true }
def FnExactSameRoadUptoSaid : Prop := fnExactSameRoadUptoRow.holds Try.pinned (OpenSpec.upto fnExactSameRoadSpec)

/-- 'laws.FnExactRegionsFrom', WHERE WHAT IT READS IS OF BULK AT MOST 1048576: true; the input reads as it did. -/
def fnExactRegionsFromUptoRow : OpenClaim := { program := "ytbbibfeblaocfaa", sum := "aa3046f0bf2442c1d4dbde44d0bb377886fcef6a35e113ea793f5b77fb099ee4", func := "loop.example/g00811/laws.FnExactRegionsFrom", spec := "fnExactRegionsFrom", recurses := true, apart := false, narrowed := true }
def FnExactRegionsFromUptoSaid : Prop := fnExactRegionsFromUptoRow.holds Try.pinned (OpenSpec.upto fnExactRegionsFromSpec)

/-- 'laws.FnExactCellSide', WHERE WHAT IT READS IS OF BULK AT MOST 1048576: true; the input reads as it did. -/
def fnExactCellSideUptoRow : OpenClaim := { program := "ytbbibfeblaocfaa", sum := "aa3046f0bf2442c1d4dbde44d0bb377886fcef6a35e113ea793f5b77fb099ee4", func := "loop.example/g00811/laws.FnExactCellSide", spec := "fnExactCellSide", apart := false, narrowed := true }
def FnExactCellSideUptoSaid : Prop := fnExactCellSideUptoRow.holds Try.pinned (OpenSpec.upto fnExactCellSideSpec)

end Rows
end Go.Proofs.Ytbbibfeblaocfaa
