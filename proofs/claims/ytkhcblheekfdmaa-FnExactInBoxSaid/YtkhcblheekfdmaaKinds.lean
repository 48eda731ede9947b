/- The kinds of data of the planner: edges and what is built of vectors and fractions. It speaks of no program. -/
import Derived.Test.YtkhcblheekfdmaaBase
namespace Go.Proofs.Ytkhcblheekfdmaa
/-- An edge: its ends, its area, whether it is a lower one. -/
abbrev QE := QV × QV × Int × Bool
def tEdge : Ty QE := tProd tVec (tProd tVec (tProd tInt tBool))
def fEdge : Flat tEdge := fProd fVec (fProd fVec (fProd fInt fBool))
end Go.Proofs.Ytkhcblheekfdmaa
