/- A box's cells as a range. It speaks of no program. -/
import Derived.Test.YtkhcblheekfdmaaGBase
import Derived.Deep.MidRow
namespace Go.Proofs.Ytkhcblheekfdmaa
open Go.RowKit
theorem box_range {X w' : World} {l : List Value} {t : TypeId} {N : Nat} (hN : X.heap.size = N) (h : More (X.alloc (.cells l.toArray t)) w') : w'.rangeAt N 0 l := by
  intro j v hv
  rw [Nat.zero_add, box_new hN h j]
  simpa using hv
end Go.Proofs.Ytkhcblheekfdmaa
