/- Contracts of the laws' helpers on slices of vectors: size, copy, comparison, marks. -/
import Derived.Test.YtkhcblheekfdmaaVec
import Derived.Deep.RegionHeld3
namespace Go.Proofs.Ytkhcblheekfdmaa
open Go.RowKit

def szI (n : Nat) (left : Int) : Int := if (n : Int) ≤ left then left - n else -1
theorem szI_pos {n : Nat} {left : Int} (h : (n : Int) ≤ left) : szI n left = left - n := if_pos h
theorem szI_neg {n : Nat} {left : Int} (h : ¬ (n : Int) ≤ left) : szI n left = -1 := if_neg h

end Go.Proofs.Ytkhcblheekfdmaa
