/- The side of a cell. -/
import Derived.Test.YteihkhniibncnaaGreatThn
import Derived.Test.YteihkhniibncnaaGreatCpy
import Derived.Test.YteihkhniibncnaaGreatEqFr
import Derived.Test.YteihkhniibncnaaGreatRng
namespace Go.Proofs.YteihkhniibncnaaGreat
open Go.RowKit
end Go.Proofs.YteihkhniibncnaaGreat
