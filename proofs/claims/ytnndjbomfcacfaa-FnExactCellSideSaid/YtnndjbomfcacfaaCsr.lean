/- A region of a function, by its number. It speaks of no program. -/
import Derived.Test.YtnndjbomfcacfaaMan
namespace Go.Proofs.Ytnndjbomfcacfaa
open Go.RowKit
def regIn (n : Nat) : Code → Option Code
  | .region id ops d => if id = n then some (.region id ops d) else none
  | .seq a b => match regIn n a with | some c => some c | none => regIn n b
  | .cond _ a b => match regIn n a with | some c => some c | none => regIn n b
  | .block _ a => regIn n a
  | .loop a => regIn n a
  | .scope a => regIn n a
  | _ => none
def regOf (f : Func) (n : Nat) : Code := match f.body with
  | some c => match regIn n c with | some d => d | none => .skip
  | none => .skip
end Go.Proofs.Ytnndjbomfcacfaa
