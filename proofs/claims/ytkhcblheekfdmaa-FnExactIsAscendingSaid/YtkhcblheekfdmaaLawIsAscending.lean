/- FnExactIsAscending returns true, for every input. -/
import Derived.Test.YtkhcblheekfdmaaAsc
import Derived.Test.YtkhcblheekfdmaaSzRatS
import Derived.Test.YtkhcblheekfdmaaToRatS
import Derived.Test.YtkhcblheekfdmaaEqRatS
import Derived.Deep.RegionHeld3
namespace Go.Proofs.Ytkhcblheekfdmaa
open Go.RowKit
set_option maxHeartbeats 3200000 in
theorem law_IsAscending {W : World} (v0 : Value) (l : List (QR)) (hv0 : tRatS.at W [v0] l) :
    Calls Try.prog 5 #[v0] W fun e w' => e = .returned (.bool true) ∧ More W w' := by
  have HV0 := Lib.hid hv0; clear hv0
  by_cases hn0 : ((wRatS l : Nat) : Int) ≤ 1048576
  rotate_left
  · have Hbad := Lib.hid hn0; clear hn0
    go_enter Try.func5, Try.ntmps5
    go_wp2_with fail
    refine (laws_szRatS _ l _ _ (Ty.at_more HV0.out (Turns.more (by repeat (first | (with_reducible exact Turns.refl _ _) | (with_reducible apply Turns.drew) | (with_reducible apply Turns.drewN) | (with_reducible apply Turns.alloc) | (with_reducible refine Turns.via (by assumption) ?_))))) (by decide) (by decide)).mono ?_
    rintro e w1 ⟨rfl, b1⟩
    rw [szI_neg (by have := Hbad.out; omega)]
    go_wp2_with fail
    go_ret
    exact ⟨rfl, (Turns.more (by repeat (first | (with_reducible exact Turns.refl _ _) | (with_reducible apply Turns.drew) | (with_reducible apply Turns.drewN) | (with_reducible apply Turns.alloc) | (with_reducible refine Turns.via (by assumption) ?_))))⟩
  have Hn0 := Lib.hid hn0
  have Hs0 : Hid (wRatS l ≤ 1048576) := Lib.hid (by omega)
  clear hn0
  go_enter Try.func5, Try.ntmps5
  go_wp2_with fail
  refine (laws_szRatS _ l _ _ (Ty.at_more HV0.out (Turns.more (by repeat (first | (with_reducible exact Turns.refl _ _) | (with_reducible apply Turns.drew) | (with_reducible apply Turns.drewN) | (with_reducible apply Turns.alloc) | (with_reducible refine Turns.via (by assumption) ?_))))) (by decide) (by decide)).mono ?_
  rintro e w1 ⟨rfl, b1⟩
  rw [szI_pos (by have := Hn0.out; omega)]
  have z0 : 0 ≤ (1048576 : Int) - (wRatS l : Nat) := by have := Hn0.out; omega
  go_wp2_with fail
  refine (laws_toRatS _ l _ (Ty.at_more HV0.out (Turns.more (by repeat (first | (with_reducible exact Turns.refl _ _) | (with_reducible apply Turns.drew) | (with_reducible apply Turns.drewN) | (with_reducible apply Turns.alloc) | (with_reducible refine Turns.via (by assumption) ?_))))) Hs0.out).mono ?_
  rintro e w2 ⟨c0, rfl, b2, Fc0⟩
  go_wp2_with fail
  refine (spec_IsAscending _ l _ (Ty.at_more (Ty.fresh_at Fc0) (Turns.more (by repeat (first | (with_reducible exact Turns.refl _ _) | (with_reducible apply Turns.drew) | (with_reducible apply Turns.drewN) | (with_reducible apply Turns.alloc) | (with_reducible refine Turns.via (by assumption) ?_))))) (rats_small Hs0.out)).mono ?_
  rintro e w3 ⟨rfl, b3⟩
  go_wp2_with fail
  refine (laws_toRatS _ l _ (Ty.at_more HV0.out (Turns.more (by repeat (first | (with_reducible exact Turns.refl _ _) | (with_reducible apply Turns.drew) | (with_reducible apply Turns.drewN) | (with_reducible apply Turns.alloc) | (with_reducible refine Turns.via (by assumption) ?_))))) Hs0.out).mono ?_
  rintro e w4 ⟨x0, rfl, b4, Fx0⟩
  go_wp2_with fail
  refine (impl_IsAscending _ l _ (Ty.at_more (Ty.fresh_at Fx0) (Turns.more (by repeat (first | (with_reducible exact Turns.refl _ _) | (with_reducible apply Turns.drew) | (with_reducible apply Turns.drewN) | (with_reducible apply Turns.alloc) | (with_reducible refine Turns.via (by assumption) ?_))))) (rats_small Hs0.out)).mono ?_
  rintro e w5 ⟨rfl, b5⟩
  go_wp2_with fail
  refine (laws_toRatS _ l _ (Ty.at_more HV0.out (Turns.more (by repeat (first | (with_reducible exact Turns.refl _ _) | (with_reducible apply Turns.drew) | (with_reducible apply Turns.drewN) | (with_reducible apply Turns.alloc) | (with_reducible refine Turns.via (by assumption) ?_))))) Hs0.out).mono ?_
  rintro e w6 ⟨t0, rfl, b6, Ft0⟩
  go_wp2_with fail
  refine (laws_eqRatS _ _ l _ (Ty.at_more (Ty.fresh_at Fx0) (Turns.more (by repeat (first | (with_reducible exact Turns.refl _ _) | (with_reducible apply Turns.drew) | (with_reducible apply Turns.drewN) | (with_reducible apply Turns.alloc) | (with_reducible refine Turns.via (by assumption) ?_))))) (Ty.at_more (Ty.fresh_at Ft0) (Turns.more (by repeat (first | (with_reducible exact Turns.refl _ _) | (with_reducible apply Turns.drew) | (with_reducible apply Turns.drewN) | (with_reducible apply Turns.alloc) | (with_reducible refine Turns.via (by assumption) ?_))))) Hs0.out).mono ?_
  rintro e w7 ⟨rfl, b7⟩
  go_wp2_with fail
  go_ret
  exact ⟨rfl, (Turns.more (by repeat (first | (with_reducible exact Turns.refl _ _) | (with_reducible apply Turns.drew) | (with_reducible apply Turns.drewN) | (with_reducible apply Turns.alloc) | (with_reducible refine Turns.via (by assumption) ?_))))⟩
end Go.Proofs.Ytkhcblheekfdmaa
