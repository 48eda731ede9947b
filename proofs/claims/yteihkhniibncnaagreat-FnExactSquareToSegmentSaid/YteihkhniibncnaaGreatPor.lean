/- Points that are valid or nothing; half of a fraction. -/
import Derived.Test.YteihkhniibncnaaGreatThn
import Derived.Test.YteihkhniibncnaaGreatRa2
import Derived.Test.YteihkhniibncnaaGreatGSra
import Derived.Test.YteihkhniibncnaaGreatPnt
import Derived.Test.YteihkhniibncnaaGreatCsd
namespace Go.Proofs.YteihkhniibncnaaGreat
open Go.RowKit
abbrev zeroQP : QP := (((false, []), []), ((false, []), []))
theorem ratOk_encP {f : Fr} (h : Vd f) : ratOkB (encR f) = decide (f.2 ≠ 0) := by
  rcases h with rfl | h
  · rw [ratOk_zero]; rfl
  · rw [ratOk_iff.2 ⟨f, h, rfl⟩, decide_eq_true h.1]
theorem pt_at2 {w : World} {c1 c2 : List Value} {x y : QR} (h1 : tRat.at w c1 x) (h2 : tRat.at w c2 y) : tPoint.at w (c1 ++ c2) (x, y) := prod_at h1 h2
end Go.Proofs.YteihkhniibncnaaGreat
