/- FnExactCountTurns returns true, for every input. -/
import Derived.Test.YtmibmiebanaojaaCntT
import Derived.Test.YtmibmiebanaojaaSzStepS
import Derived.Test.YtmibmiebanaojaaToStepS
import Derived.Test.YtmibmiebanaojaaEqStepS
import Derived.Deep.RegionHeld3
namespace Go.Proofs.Ytmibmiebanaojaa
open Go.RowKit
set_option maxHeartbeats 3200000 in
theorem law_CountTurns {W : World} (v0 : Value) (l : List (QStep)) (hv0 : tStepS.at W [v0] l) :
    Calls Try.prog 8 #[v0] W fun e w' => e = .returned (.bool true) ∧ More W w' := by
  have HV0 := Lib.hid hv0; clear hv0
  by_cases hn0 : ((wStepS l : Nat) : Int) ≤ 1048576
  rotate_left
  · have Hbad := Lib.hid hn0; clear hn0
    go_enter Try.func8, Try.ntmps8
    go_wp2_with fail
    refine (laws_szStepS _ l _ _ (Ty.at_more HV0.out (Turns.more (by repeat (first | (with_reducible exact Turns.refl _ _) | (with_reducible apply Turns.drew) | (with_reducible apply Turns.drewN) | (with_reducible apply Turns.alloc) | (with_reducible refine Turns.via (by assumption) ?_))))) (by decide) (by decide)).mono ?_
    rintro e w1 ⟨rfl, b1⟩
    rw [szI_neg (by have := Hbad.out; omega)]
    go_wp2_with fail
    go_ret
    exact ⟨rfl, (Turns.more (by repeat (first | (with_reducible exact Turns.refl _ _) | (with_reducible apply Turns.drew) | (with_reducible apply Turns.drewN) | (with_reducible apply Turns.alloc) | (with_reducible refine Turns.via (by assumption) ?_))))⟩
  have Hn0 := Lib.hid hn0
  have Hs0 : Hid (wStepS l ≤ 1048576) := Lib.hid (by omega)
  clear hn0
  go_enter Try.func8, Try.ntmps8
  go_wp2_with fail
  refine (laws_szStepS _ l _ _ (Ty.at_more HV0.out (Turns.more (by repeat (first | (with_reducible exact Turns.refl _ _) | (with_reducible apply Turns.drew) | (with_reducible apply Turns.drewN) | (with_reducible apply Turns.alloc) | (with_reducible refine Turns.via (by assumption) ?_))))) (by decide) (by decide)).mono ?_
  rintro e w1 ⟨rfl, b1⟩
  rw [szI_pos (by have := Hn0.out; omega)]
  have z0 : 0 ≤ (1048576 : Int) - (wStepS l : Nat) := by have := Hn0.out; omega
  go_wp2_with fail
  refine (laws_toStepS _ l _ (Ty.at_more HV0.out (Turns.more (by repeat (first | (with_reducible exact Turns.refl _ _) | (with_reducible apply Turns.drew) | (with_reducible apply Turns.drewN) | (with_reducible apply Turns.alloc) | (with_reducible refine Turns.via (by assumption) ?_))))) Hs0.out).mono ?_
  rintro e w2 ⟨c0, rfl, b2, Fc0⟩
  go_wp2_with fail
  refine (spec_CountTurns _ l _ (Ty.at_more (Ty.fresh_at Fc0) (Turns.more (by repeat (first | (with_reducible exact Turns.refl _ _) | (with_reducible apply Turns.drew) | (with_reducible apply Turns.drewN) | (with_reducible apply Turns.alloc) | (with_reducible refine Turns.via (by assumption) ?_))))) Hs0.out).mono ?_
  rintro e w3 ⟨rfl, b3⟩
  go_wp2_with fail
  refine (laws_toStepS _ l _ (Ty.at_more HV0.out (Turns.more (by repeat (first | (with_reducible exact Turns.refl _ _) | (with_reducible apply Turns.drew) | (with_reducible apply Turns.drewN) | (with_reducible apply Turns.alloc) | (with_reducible refine Turns.via (by assumption) ?_))))) Hs0.out).mono ?_
  rintro e w4 ⟨x0, rfl, b4, Fx0⟩
  go_wp2_with fail
  refine (impl_CountTurns _ l _ (Ty.at_more (Ty.fresh_at Fx0) (Turns.more (by repeat (first | (with_reducible exact Turns.refl _ _) | (with_reducible apply Turns.drew) | (with_reducible apply Turns.drewN) | (with_reducible apply Turns.alloc) | (with_reducible refine Turns.via (by assumption) ?_))))) Hs0.out).mono ?_
  rintro e w5 ⟨rfl, b5⟩
  go_wp2_with fail
  refine (laws_toStepS _ l _ (Ty.at_more HV0.out (Turns.more (by repeat (first | (with_reducible exact Turns.refl _ _) | (with_reducible apply Turns.drew) | (with_reducible apply Turns.drewN) | (with_reducible apply Turns.alloc) | (with_reducible refine Turns.via (by assumption) ?_))))) Hs0.out).mono ?_
  rintro e w6 ⟨t0, rfl, b6, Ft0⟩
  go_wp2_with fail
  refine (laws_eqStepS _ _ l _ (Ty.at_more (Ty.fresh_at Fx0) (Turns.more (by repeat (first | (with_reducible exact Turns.refl _ _) | (with_reducible apply Turns.drew) | (with_reducible apply Turns.drewN) | (with_reducible apply Turns.alloc) | (with_reducible refine Turns.via (by assumption) ?_))))) (Ty.at_more (Ty.fresh_at Ft0) (Turns.more (by repeat (first | (with_reducible exact Turns.refl _ _) | (with_reducible apply Turns.drew) | (with_reducible apply Turns.drewN) | (with_reducible apply Turns.alloc) | (with_reducible refine Turns.via (by assumption) ?_))))) Hs0.out).mono ?_
  rintro e w7 ⟨rfl, b7⟩
  go_wp2_with fail
  go_ret
  exact ⟨rfl, (Turns.more (by repeat (first | (with_reducible exact Turns.refl _ _) | (with_reducible apply Turns.drew) | (with_reducible apply Turns.drewN) | (with_reducible apply Turns.alloc) | (with_reducible refine Turns.via (by assumption) ?_))))⟩
end Go.Proofs.Ytmibmiebanaojaa
