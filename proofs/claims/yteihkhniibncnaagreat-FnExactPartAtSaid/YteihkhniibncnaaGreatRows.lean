/-
  No cell of these rows narrows 'for every input' (looked for: loops, veiled, ifaces, maps, wideKeys, modest, calm, conditions, laid).
  DERIVED. THE GIVEN ROWS OF THIS SEAT. 7 by the template 'for every input the law returns true; each argument reads behind the call as it read before'; 0 by the template 'total and deterministic' (their statements: YteihkhniibncnaaGreatTotals.lean).
  GIVEN WITH THE SEED: the statements are not yours to turn. If you find one false, say at which input.
  Laid BY PROGRAM, IN A SANDBOX (cutbox-rows.mjs): the forced cells as the released guide's own fill.sh prints them over the translation 383a8bebff92f1ad… (all of the seat's roots in one cut). By AI agents, Wed Nov 11 2026. No macro, syntax, notation, axiom, sorry.
-/
import Derived.Test.YteihkhniibncnaaGreatChecked
import GoSem.Claim
import GoSem.ClaimJoined
import GoSem.ClaimMapViews
import Derived.JoinedTies
import Derived.KernelRfl
namespace Go.Proofs.YteihkhniibncnaaGreat
/- THE CELL 'sum', in the pinned program and in every row, IS THE sha256 OF THE DUMP (.gsa) THAT YteihkhniibncnaaGreatProg.lean LOADS. Nothing in Lean hashes anything: it is a label: what it is worth is what the hold of that sum in a sandbox is worth. -/
noncomputable def Tryz.pinned : Pinned := { name := "yteihkhniibncnaagreat", sum := "383a8bebff92f1ad542c6c3de8c770996e092d55e794af52649536fb12183910", checked := Tryz.checked }
namespace Rows
def none {H : Type} : Left H := { results := [], args := [] }

/-- 'laws.FnExactCrossingX': WHATEVER THE INPUT: true; the input reads as it did. -/
def fnExactCrossingXSpec : ChangeSpec := { name := "fnExactCrossingX", fn := fun _ => fun
  | [d1, d2] => { results := [.lit (.bool true)], args := [d1, d2] }
  | _ => none }
def fnExactCrossingXRow : OpenClaim := { program := "yteihkhniibncnaagreat", sum := "383a8bebff92f1ad542c6c3de8c770996e092d55e794af52649536fb12183910", func := "loop.example/g00811/laws.FnExactCrossingX", spec := "fnExactCrossingX", unfollowed := true, recurses := true, apart := false }
def FnExactCrossingXSaid : Prop := fnExactCrossingXRow.holds Tryz.pinned (OpenSpec.ofChange fnExactCrossingXSpec)

/-- ITS FALSE NEIGHBOUR: 'it returns false'. Refute it at one input. -/
def fnExactCrossingXWrong : ChangeSpec := { name := "fnExactCrossingX", fn := fun _ => fun
  | [d1, d2] => { results := [.lit (.bool false)], args := [d1, d2] }
  | _ => none }
def FnExactCrossingXWrongFalsely : Prop := fnExactCrossingXRow.holds Tryz.pinned (OpenSpec.ofChange fnExactCrossingXWrong)

/-- 'laws.FnExactWallPoint': WHATEVER THE INPUT: true; the input reads as it did. -/
def fnExactWallPointSpec : ChangeSpec := { name := "fnExactWallPoint", fn := fun _ => fun
  | [d] => { results := [.lit (.bool true)], args := [d] }
  | _ => none }
def fnExactWallPointRow : OpenClaim := { program := "yteihkhniibncnaagreat", sum := "383a8bebff92f1ad542c6c3de8c770996e092d55e794af52649536fb12183910", func := "loop.example/g00811/laws.FnExactWallPoint", spec := "fnExactWallPoint", unfollowed := true, recurses := true, apart := false }
def FnExactWallPointSaid : Prop := fnExactWallPointRow.holds Tryz.pinned (OpenSpec.ofChange fnExactWallPointSpec)

/-- ITS FALSE NEIGHBOUR: 'it returns false'. Refute it at one input. -/
def fnExactWallPointWrong : ChangeSpec := { name := "fnExactWallPoint", fn := fun _ => fun
  | [d] => { results := [.lit (.bool false)], args := [d] }
  | _ => none }
def FnExactWallPointWrongFalsely : Prop := fnExactWallPointRow.holds Tryz.pinned (OpenSpec.ofChange fnExactWallPointWrong)

/-- 'laws.FnExactCenterOf': WHATEVER THE INPUT: true; the input reads as it did. -/
def fnExactCenterOfSpec : ChangeSpec := { name := "fnExactCenterOf", fn := fun _ => fun
  | [d] => { results := [.lit (.bool true)], args := [d] }
  | _ => none }
def fnExactCenterOfRow : OpenClaim := { program := "yteihkhniibncnaagreat", sum := "383a8bebff92f1ad542c6c3de8c770996e092d55e794af52649536fb12183910", func := "loop.example/g00811/laws.FnExactCenterOf", spec := "fnExactCenterOf", unfollowed := true, recurses := true, apart := false }
def FnExactCenterOfSaid : Prop := fnExactCenterOfRow.holds Tryz.pinned (OpenSpec.ofChange fnExactCenterOfSpec)

/-- ITS FALSE NEIGHBOUR: 'it returns false'. Refute it at one input. -/
def fnExactCenterOfWrong : ChangeSpec := { name := "fnExactCenterOf", fn := fun _ => fun
  | [d] => { results := [.lit (.bool false)], args := [d] }
  | _ => none }
def FnExactCenterOfWrongFalsely : Prop := fnExactCenterOfRow.holds Tryz.pinned (OpenSpec.ofChange fnExactCenterOfWrong)

/-- 'laws.FnExactSquareToSegment': WHATEVER THE INPUT: true; the input reads as it did. -/
def fnExactSquareToSegmentSpec : ChangeSpec := { name := "fnExactSquareToSegment", fn := fun _ => fun
  | [d1, d2, d3] => { results := [.lit (.bool true)], args := [d1, d2, d3] }
  | _ => none }
def fnExactSquareToSegmentRow : OpenClaim := { program := "yteihkhniibncnaagreat", sum := "383a8bebff92f1ad542c6c3de8c770996e092d55e794af52649536fb12183910", func := "loop.example/g00811/laws.FnExactSquareToSegment", spec := "fnExactSquareToSegment", unfollowed := true, recurses := true, apart := false }
def FnExactSquareToSegmentSaid : Prop := fnExactSquareToSegmentRow.holds Tryz.pinned (OpenSpec.ofChange fnExactSquareToSegmentSpec)

/-- ITS FALSE NEIGHBOUR: 'it returns false'. Refute it at one input. -/
def fnExactSquareToSegmentWrong : ChangeSpec := { name := "fnExactSquareToSegment", fn := fun _ => fun
  | [d1, d2, d3] => { results := [.lit (.bool false)], args := [d1, d2, d3] }
  | _ => none }
def FnExactSquareToSegmentWrongFalsely : Prop := fnExactSquareToSegmentRow.holds Tryz.pinned (OpenSpec.ofChange fnExactSquareToSegmentWrong)

/-- 'laws.FnExactWallAt': WHATEVER THE INPUT: true; the input reads as it did. -/
def fnExactWallAtSpec : ChangeSpec := { name := "fnExactWallAt", fn := fun _ => fun
  | [d1, d2] => { results := [.lit (.bool true)], args := [d1, d2] }
  | _ => none }
def fnExactWallAtRow : OpenClaim := { program := "yteihkhniibncnaagreat", sum := "383a8bebff92f1ad542c6c3de8c770996e092d55e794af52649536fb12183910", func := "loop.example/g00811/laws.FnExactWallAt", spec := "fnExactWallAt", unfollowed := true, recurses := true, apart := false }
def FnExactWallAtSaid : Prop := fnExactWallAtRow.holds Tryz.pinned (OpenSpec.ofChange fnExactWallAtSpec)

/-- ITS FALSE NEIGHBOUR: 'it returns false'. Refute it at one input. -/
def fnExactWallAtWrong : ChangeSpec := { name := "fnExactWallAt", fn := fun _ => fun
  | [d1, d2] => { results := [.lit (.bool false)], args := [d1, d2] }
  | _ => none }
def FnExactWallAtWrongFalsely : Prop := fnExactWallAtRow.holds Tryz.pinned (OpenSpec.ofChange fnExactWallAtWrong)

/-- 'laws.FnExactCellAt': WHATEVER THE INPUT: true; the input reads as it did. -/
def fnExactCellAtSpec : ChangeSpec := { name := "fnExactCellAt", fn := fun _ => fun
  | [d1, d2] => { results := [.lit (.bool true)], args := [d1, d2] }
  | _ => none }
def fnExactCellAtRow : OpenClaim := { program := "yteihkhniibncnaagreat", sum := "383a8bebff92f1ad542c6c3de8c770996e092d55e794af52649536fb12183910", func := "loop.example/g00811/laws.FnExactCellAt", spec := "fnExactCellAt", unfollowed := true, recurses := true, apart := false }
def FnExactCellAtSaid : Prop := fnExactCellAtRow.holds Tryz.pinned (OpenSpec.ofChange fnExactCellAtSpec)

/-- ITS FALSE NEIGHBOUR: 'it returns false'. Refute it at one input. -/
def fnExactCellAtWrong : ChangeSpec := { name := "fnExactCellAt", fn := fun _ => fun
  | [d1, d2] => { results := [.lit (.bool false)], args := [d1, d2] }
  | _ => none }
def FnExactCellAtWrongFalsely : Prop := fnExactCellAtRow.holds Tryz.pinned (OpenSpec.ofChange fnExactCellAtWrong)

/-- 'laws.FnExactPartAt': WHATEVER THE INPUT: true; the input reads as it did. -/
def fnExactPartAtSpec : ChangeSpec := { name := "fnExactPartAt", fn := fun _ => fun
  | [d1, d2] => { results := [.lit (.bool true)], args := [d1, d2] }
  | _ => none }
def fnExactPartAtRow : OpenClaim := { program := "yteihkhniibncnaagreat", sum := "383a8bebff92f1ad542c6c3de8c770996e092d55e794af52649536fb12183910", func := "loop.example/g00811/laws.FnExactPartAt", spec := "fnExactPartAt", unfollowed := true, recurses := true, apart := false }
def FnExactPartAtSaid : Prop := fnExactPartAtRow.holds Tryz.pinned (OpenSpec.ofChange fnExactPartAtSpec)

/-- ITS FALSE NEIGHBOUR: 'it returns false'. Refute it at one input. -/
def fnExactPartAtWrong : ChangeSpec := { name := "fnExactPartAt", fn := fun _ => fun
  | [d1, d2] => { results := [.lit (.bool false)], args := [d1, d2] }
  | _ => none }
def FnExactPartAtWrongFalsely : Prop := fnExactPartAtRow.holds Tryz.pinned (OpenSpec.ofChange fnExactPartAtWrong)

/- THE SECOND FORM. 'bulk': how many values and letters a reading holds, each counted each time it is reached (what is shared counts as often as it is met; a slice's spare places count too). A statement '..UptoSaid' is the law's where the arguments, and the package variables that the reading takes, are together of bulk at most 1048576: NARROWER than '..Said'. Prove '..Said' where nothing that the law and all that it calls make is longer than what came in: it says more and counts as full. Else prove '..UptoSaid'. A law counts once. -/
mutual
def uptoBulk {H : Type} : DataW H → Nat
  | .lit (.string bytes) => bytes.length + 1
  | .lit _ => 1
  | .nil => 1
  | .ptr d => uptoBulk d + 1
  | .slice elems spare => uptoBulkAll elems + uptoBulkAll spare + 1
  | .agg parts => uptoBulkAll parts + 1
  | .iface _ d => uptoBulk d + 1
  | .map entries => uptoBulkEntries entries + 1
  | .held _ => 1
def uptoBulkAll {H : Type} : List (DataW H) → Nat
  | [] => 0
  | d :: r => uptoBulk d + uptoBulkAll r
def uptoBulkEntries {H : Type} : List (Lit × DataW H) → Nat
  | [] => 0
  | x :: r => uptoBulkEntry x + uptoBulkEntries r
def uptoBulkEntry {H : Type} : Lit × DataW H → Nat
  | (.string bytes, d) => bytes.length + uptoBulk d + 1
  | (_, d) => uptoBulk d + 1
 end
def uptoSmall : (H : Type) → List (DataW H) → Bool := fun _ ds => decide (uptoBulkAll ds ≤ 1048576)
def OpenSpec.upto (s : _root_.Go.ChangeSpec) : _root_.Go.OpenSpec := { _root_.Go.OpenSpec.ofChange s with cond := some uptoSmall }

/-- 'laws.FnExactCrossingX', WHERE WHAT IT READS IS OF BULK AT MOST 1048576: true; the input reads as it did. -/
def fnExactCrossingXUptoRow : OpenClaim := { program := "yteihkhniibncnaagreat", sum := "383a8bebff92f1ad542c6c3de8c770996e092d55e794af52649536fb12183910", func := "loop.example/g00811/laws.FnExactCrossingX", spec := "fnExactCrossingX", unfollowed := true, recurses := true, apart := false, narrowed := true }
def FnExactCrossingXUptoSaid : Prop := fnExactCrossingXUptoRow.holds Tryz.pinned (OpenSpec.upto fnExactCrossingXSpec)

/-- 'laws.FnExactWallPoint', WHERE WHAT IT READS IS OF BULK AT MOST 1048576: true; the input reads as it did. -/
def fnExactWallPointUptoRow : OpenClaim := { program := "yteihkhniibncnaagreat", sum := "383a8bebff92f1ad542c6c3de8c770996e092d55e794af52649536fb12183910", func := "loop.example/g00811/laws.FnExactWallPoint", spec := "fnExactWallPoint", unfollowed := true, recurses := true, apart := false, narrowed := true }
def FnExactWallPointUptoSaid : Prop := fnExactWallPointUptoRow.holds Tryz.pinned (OpenSpec.upto fnExactWallPointSpec)

/-- 'laws.FnExactCenterOf', WHERE WHAT IT READS IS OF BULK AT MOST 1048576: true; the input reads as it did. -/
def fnExactCenterOfUptoRow : OpenClaim := { program := "yteihkhniibncnaagreat", sum := "383a8bebff92f1ad542c6c3de8c770996e092d55e794af52649536fb12183910", func := "loop.example/g00811/laws.FnExactCenterOf", spec := "fnExactCenterOf", unfollowed := true, recurses := true, apart := false, narrowed := true }
def FnExactCenterOfUptoSaid : Prop := fnExactCenterOfUptoRow.holds Tryz.pinned (OpenSpec.upto fnExactCenterOfSpec)

/-- 'laws.FnExactSquareToSegment', WHERE WHAT IT READS IS OF BULK AT MOST 1048576: true; the input reads as it did. -/
def fnExactSquareToSegmentUptoRow : OpenClaim := { program := "yteihkhniibncnaagreat", sum := "383a8bebff92f1ad542c6c3de8c770996e092d55e794af52649536fb12183910", func := "loop.example/g00811/laws.FnExactSquareToSegment", spec := "fnExactSquareToSegment", unfollowed := true, recurses := true, apart := false, narrowed := true }
def FnExactSquareToSegmentUptoSaid : Prop := fnExactSquareToSegmentUptoRow.holds Tryz.pinned (OpenSpec.upto fnExactSquareToSegmentSpec)

/-- 'laws.FnExactWallAt', WHERE WHAT IT READS IS OF BULK AT MOST 1048576: true; the input reads as it did. -/
def fnExactWallAtUptoRow : OpenClaim := { program := "yteihkhniibncnaagreat", sum := "383a8bebff92f1ad542c6c3de8c770996e092d55e794af52649536fb12183910", func := "loop.example/g00811/laws.FnExactWallAt", spec := "fnExactWallAt", unfollowed := true, recurses := true, apart := false, narrowed := true }
def FnExactWallAtUptoSaid : Prop := fnExactWallAtUptoRow.holds Tryz.pinned (OpenSpec.upto fnExactWallAtSpec)

/-- 'laws.FnExactCellAt', WHERE WHAT IT READS IS OF BULK AT MOST 1048576: true; the input reads as it did. -/
def fnExactCellAtUptoRow : OpenClaim := { program := "yteihkhniibncnaagreat", sum := "383a8bebff92f1ad542c6c3de8c770996e092d55e794af52649536fb12183910", func := "loop.example/g00811/laws.FnExactCellAt", spec := "fnExactCellAt", unfollowed := true, recurses := true, apart := false, narrowed := true }
def FnExactCellAtUptoSaid : Prop := fnExactCellAtUptoRow.holds Tryz.pinned (OpenSpec.upto fnExactCellAtSpec)

/-- 'laws.FnExactPartAt', WHERE WHAT IT READS IS OF BULK AT MOST 1048576: true; the input reads as it did. -/
def fnExactPartAtUptoRow : OpenClaim := { program := "yteihkhniibncnaagreat", sum := "383a8bebff92f1ad542c6c3de8c770996e092d55e794af52649536fb12183910", func := "loop.example/g00811/laws.FnExactPartAt", spec := "fnExactPartAt", unfollowed := true, recurses := true, apart := false, narrowed := true }
def FnExactPartAtUptoSaid : Prop := fnExactPartAtUptoRow.holds Tryz.pinned (OpenSpec.upto fnExactPartAtSpec)

end Rows
end Go.Proofs.YteihkhniibncnaaGreat
