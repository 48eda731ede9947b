/- A box's cells as a range. It speaks of no program. -/
import Derived.Test.YteihkhniibncnaaGreatGBase
import Derived.Deep.MidRow
namespace Go.Proofs.YteihkhniibncnaaGreat
open Go.RowKit
end Go.Proofs.YteihkhniibncnaaGreat
