/- FnExactNegatePolygon returns true, for every list of vectors. -/
import Derived.Test.YtlidkddicnfmaaaNeg
namespace Go.Proofs.Ytlidkddicnfmaaa
open Go.RowKit

theorem negP_len (l : List QV) : (negP l).length ≤ l.length := by
  unfold negP
  split
  · simp
  · simp

end Go.Proofs.Ytlidkddicnfmaaa
