/- TurnsBetween: the reference's. -/
import Derived.Test.YtbbibfeblaocfaaGVec
namespace Go.Proofs.Ytbbibfeblaocfaa
open Go.RowKit
def tbL (r : Int) : List Int := if r = 1 then [1] else if r = 2 then [1, 1] else if r = 3 then [-1] else []
def tbF (g h : Int) : List Int := if inR g 0 3 && inR h 0 3 then tbL ((h + 4 - g) % 4) else []
end Go.Proofs.Ytbbibfeblaocfaa
