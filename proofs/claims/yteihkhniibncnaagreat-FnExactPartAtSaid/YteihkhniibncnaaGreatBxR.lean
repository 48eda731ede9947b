/- A fraction beside a box that is filled. -/
import Derived.Test.YteihkhniibncnaaGreatRt
import Derived.Test.YteihkhniibncnaaGreatBx
namespace Go.Proofs.YteihkhniibncnaaGreat
open Go.RowKit
theorem RatAt.box3 {w : World} {f : Fr} {u v : Value} {B : Nat} {b : Bool} {p p' : Option Addr} {q t q' t' : Nat} {c0 c1 c2 : Value} (h : RatAt w f u v) (hB : Box3 w B (.bool b) (.slice p q t) (.slice p' q' t')) : RatAt (((w.setCell ⟨B, 0, none⟩ c0).setCell ⟨B, 1, none⟩ c1).setCell ⟨B, 2, none⟩ c2) f u v :=
  ⟨ints_box3 h.1 hB, ints_box3 h.2 hB⟩
end Go.Proofs.YteihkhniibncnaaGreat
