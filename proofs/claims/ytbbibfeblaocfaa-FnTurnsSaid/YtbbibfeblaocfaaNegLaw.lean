/- FnExactNegatePolygon returns true, for every list of vectors. -/
import Derived.Test.YtbbibfeblaocfaaNeg
namespace Go.Proofs.Ytbbibfeblaocfaa
open Go.RowKit

theorem negP_len (l : List QV) : (negP l).length ≤ l.length := by
  unfold negP
  split
  · simp
  · simp

end Go.Proofs.Ytbbibfeblaocfaa
