/- Copies of fractions, valid or not. -/
import Derived.Test.YtnbefpfijaimjaaGreatDoorGPnt
import Derived.Test.YtnbefpfijaimjaaGreatDoorGSra
import Derived.Test.YtnbefpfijaimjaaGreatDoorGBig
import Derived.Test.YtnbefpfijaimjaaGreatDoorGInt
namespace Go.Proofs.YtnbefpfijaimjaaGreatDoor
open Go.RowKit
end Go.Proofs.YtnbefpfijaimjaaGreatDoor
