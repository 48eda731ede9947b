/- Natural numbers as limbs: quotients by one limb; the reference's digit. -/
import Derived.Test.YtnndjbomfcacfaaRows
import Derived.Test.YtnndjbomfcacfaaNatC
import Derived.Test.YtnndjbomfcacfaaApp
import Derived.Deep.RegionHeld3
import Derived.Deep.QuietTactic
import Derived.BigQuiet
import Derived.IntWalk
namespace Go.Proofs.Ytnndjbomfcacfaa
open Go.RowKit
end Go.Proofs.Ytnndjbomfcacfaa
