/- Natural numbers as limbs: single limbs, trimming, making, comparing: the program's and the reference's. -/
import Derived.Test.YtnndjbomfcacfaaRows
import Derived.Test.YtnndjbomfcacfaaGNum
import Derived.Test.YtnndjbomfcacfaaApp
import Derived.Deep.RegionHeld3
import Derived.Deep.QuietTactic
import Derived.BigQuiet
import Derived.IntWalk
namespace Go.Proofs.Ytnndjbomfcacfaa
open Go.RowKit
theorem infoInt_ : (Try.prog.info? 3).map (fun i => (i.zero, i.size, i.bytes)) = some (some (.int .i64 0), 1, 8) := by kernel_rfl
theorem limbs_step {n : Nat} (h : 0 < n) : limbs n = ((n % 1000000000 : Nat) : Int) :: limbs (n / 1000000000) := by
  have := limbs_cons (a := n % 1000000000) (r := n / 1000000000) (Nat.mod_lt _ (by decide)) (by omega)
  rw [this, Nat.mod_add_div]
end Go.Proofs.Ytnndjbomfcacfaa
