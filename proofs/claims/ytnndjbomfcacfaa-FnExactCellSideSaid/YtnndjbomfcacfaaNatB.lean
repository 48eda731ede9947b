/- Natural numbers as limbs: sum and difference: the program's and the reference's. -/
import Derived.Test.YtnndjbomfcacfaaRows
import Derived.Test.YtnndjbomfcacfaaNatA
import Derived.Test.YtnndjbomfcacfaaApp
import Derived.Deep.RegionHeld3
import Derived.Deep.QuietTactic
import Derived.BigQuiet
import Derived.IntWalk
namespace Go.Proofs.Ytnndjbomfcacfaa
open Go.RowKit
end Go.Proofs.Ytnndjbomfcacfaa
