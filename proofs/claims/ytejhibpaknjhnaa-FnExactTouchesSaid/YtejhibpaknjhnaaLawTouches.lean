/- FnExactTouches returns true, for every input. -/
import Derived.Test.YtejhibpaknjhnaaTouch
import Derived.Deep.RegionHeld3
namespace Go.Proofs.Ytejhibpaknjhnaa
open Go.RowKit
set_option maxHeartbeats 3200000 in
theorem law_Touches {W : World} (v0 : Value) (a : List QV) (hv0 : tVecs.at W [v0] a) (v1 : Value) (b : List QV) (hv1 : tVecs.at W [v1] b) :
    Calls Try.prog 4 #[v0, v1] W fun e w' => e = .returned (.bool true) ∧ More W w' := by
  have HV0 := Lib.hid hv0; clear hv0
  have HV1 := Lib.hid hv1; clear hv1
  by_cases hn0 : ((a.length : Nat) : Int) ≤ 1048576
  rotate_left
  · have Hbad := Lib.hid hn0; clear hn0
    go_enter Try.func4, Try.ntmps4
    go_wp2_with fail
    refine (laws_szVecS _ a _ _ (Ty.at_more HV0.out (Turns.more (by repeat (first | (with_reducible exact Turns.refl _ _) | (with_reducible apply Turns.drew) | (with_reducible apply Turns.drewN) | (with_reducible apply Turns.alloc) | (with_reducible refine Turns.via (by assumption) ?_))))) (by decide) (by decide)).mono ?_
    rintro e w1 ⟨rfl, b1⟩
    rw [szI_neg (by have := Hbad.out; omega)]
    go_wp2_with fail
    go_ret
    exact ⟨rfl, (Turns.more (by repeat (first | (with_reducible exact Turns.refl _ _) | (with_reducible apply Turns.drew) | (with_reducible apply Turns.drewN) | (with_reducible apply Turns.alloc) | (with_reducible refine Turns.via (by assumption) ?_))))⟩
  by_cases hn1 : ((b.length : Nat) : Int) ≤ 1048576 - (a.length : Nat)
  rotate_left
  · have Hbad := Lib.hid hn1; clear hn1
    have Hn0 := Lib.hid hn0; clear hn0
    go_enter Try.func4, Try.ntmps4
    go_wp2_with fail
    refine (laws_szVecS _ a _ _ (Ty.at_more HV0.out (Turns.more (by repeat (first | (with_reducible exact Turns.refl _ _) | (with_reducible apply Turns.drew) | (with_reducible apply Turns.drewN) | (with_reducible apply Turns.alloc) | (with_reducible refine Turns.via (by assumption) ?_))))) (by decide) (by decide)).mono ?_
    rintro e w1 ⟨rfl, b1⟩
    rw [szI_pos (by have := Hn0.out; omega)]
    have z0 : 0 ≤ (1048576 : Int) - (a.length : Nat) := by have := Hn0.out; omega
    go_wp2_with fail
    refine (laws_szVecS _ b _ _ (Ty.at_more HV1.out (Turns.more (by repeat (first | (with_reducible exact Turns.refl _ _) | (with_reducible apply Turns.drew) | (with_reducible apply Turns.drewN) | (with_reducible apply Turns.alloc) | (with_reducible refine Turns.via (by assumption) ?_))))) (by have := Hn0.out; omega) (by omega)).mono ?_
    rintro e w2 ⟨rfl, b2⟩
    rw [szI_neg (by have := Hbad.out; omega)]
    go_wp2_with fail
    go_ret
    exact ⟨rfl, (Turns.more (by repeat (first | (with_reducible exact Turns.refl _ _) | (with_reducible apply Turns.drew) | (with_reducible apply Turns.drewN) | (with_reducible apply Turns.alloc) | (with_reducible refine Turns.via (by assumption) ?_))))⟩
  have Hn0 := Lib.hid hn0
  have Hn1 := Lib.hid hn1
  have Hs0 : Hid (a.length ≤ 1048576) := Lib.hid (by omega)
  have Hs1 : Hid (b.length ≤ 1048576) := Lib.hid (by omega)
  clear hn0 hn1
  go_enter Try.func4, Try.ntmps4
  go_wp2_with fail
  refine (laws_szVecS _ a _ _ (Ty.at_more HV0.out (Turns.more (by repeat (first | (with_reducible exact Turns.refl _ _) | (with_reducible apply Turns.drew) | (with_reducible apply Turns.drewN) | (with_reducible apply Turns.alloc) | (with_reducible refine Turns.via (by assumption) ?_))))) (by decide) (by decide)).mono ?_
  rintro e w1 ⟨rfl, b1⟩
  rw [szI_pos (by have := Hn0.out; omega)]
  have z0 : 0 ≤ (1048576 : Int) - (a.length : Nat) := by have := Hn0.out; omega
  go_wp2_with fail
  refine (laws_szVecS _ b _ _ (Ty.at_more HV1.out (Turns.more (by repeat (first | (with_reducible exact Turns.refl _ _) | (with_reducible apply Turns.drew) | (with_reducible apply Turns.drewN) | (with_reducible apply Turns.alloc) | (with_reducible refine Turns.via (by assumption) ?_))))) (by have := Hn0.out; omega) (by omega)).mono ?_
  rintro e w2 ⟨rfl, b2⟩
  rw [szI_pos (by have := Hn1.out; omega)]
  have z1 : 0 ≤ (1048576 : Int) - (a.length : Nat) - (b.length : Nat) := by have := Hn1.out; omega
  go_wp2_with fail
  refine (laws_toVecS _ a _ (Ty.at_more HV0.out (Turns.more (by repeat (first | (with_reducible exact Turns.refl _ _) | (with_reducible apply Turns.drew) | (with_reducible apply Turns.drewN) | (with_reducible apply Turns.alloc) | (with_reducible refine Turns.via (by assumption) ?_))))) Hs0.out).mono ?_
  rintro e w3 ⟨c0, rfl, b3, Fc0⟩
  go_wp2_with fail
  refine (laws_toVecS _ b _ (Ty.at_more HV1.out (Turns.more (by repeat (first | (with_reducible exact Turns.refl _ _) | (with_reducible apply Turns.drew) | (with_reducible apply Turns.drewN) | (with_reducible apply Turns.alloc) | (with_reducible refine Turns.via (by assumption) ?_))))) Hs1.out).mono ?_
  rintro e w4 ⟨c1, rfl, b4, Fc1⟩
  go_wp2_with fail
  refine (spec_Touches _ _ a b _ (Ty.at_more (Ty.fresh_at Fc0) (Turns.more (by repeat (first | (with_reducible exact Turns.refl _ _) | (with_reducible apply Turns.drew) | (with_reducible apply Turns.drewN) | (with_reducible apply Turns.alloc) | (with_reducible refine Turns.via (by assumption) ?_))))) (Ty.at_more (Ty.fresh_at Fc1) (Turns.more (by repeat (first | (with_reducible exact Turns.refl _ _) | (with_reducible apply Turns.drew) | (with_reducible apply Turns.drewN) | (with_reducible apply Turns.alloc) | (with_reducible refine Turns.via (by assumption) ?_))))) Hs0.out Hs1.out).mono ?_
  rintro e w5 ⟨rfl, b5⟩
  go_wp2_with fail
  refine (laws_toVecS _ a _ (Ty.at_more HV0.out (Turns.more (by repeat (first | (with_reducible exact Turns.refl _ _) | (with_reducible apply Turns.drew) | (with_reducible apply Turns.drewN) | (with_reducible apply Turns.alloc) | (with_reducible refine Turns.via (by assumption) ?_))))) Hs0.out).mono ?_
  rintro e w6 ⟨x0, rfl, b6, Fx0⟩
  go_wp2_with fail
  refine (laws_toVecS _ b _ (Ty.at_more HV1.out (Turns.more (by repeat (first | (with_reducible exact Turns.refl _ _) | (with_reducible apply Turns.drew) | (with_reducible apply Turns.drewN) | (with_reducible apply Turns.alloc) | (with_reducible refine Turns.via (by assumption) ?_))))) Hs1.out).mono ?_
  rintro e w7 ⟨x1, rfl, b7, Fx1⟩
  go_wp2_with fail
  refine (impl_Touches _ _ a b _ (Ty.at_more (Ty.fresh_at Fx0) (Turns.more (by repeat (first | (with_reducible exact Turns.refl _ _) | (with_reducible apply Turns.drew) | (with_reducible apply Turns.drewN) | (with_reducible apply Turns.alloc) | (with_reducible refine Turns.via (by assumption) ?_))))) (Ty.at_more (Ty.fresh_at Fx1) (Turns.more (by repeat (first | (with_reducible exact Turns.refl _ _) | (with_reducible apply Turns.drew) | (with_reducible apply Turns.drewN) | (with_reducible apply Turns.alloc) | (with_reducible refine Turns.via (by assumption) ?_))))) Hs0.out Hs1.out).mono ?_
  rintro e w8 ⟨rfl, b8⟩
  go_wp2_with fail
  refine (laws_toVecS _ a _ (Ty.at_more HV0.out (Turns.more (by repeat (first | (with_reducible exact Turns.refl _ _) | (with_reducible apply Turns.drew) | (with_reducible apply Turns.drewN) | (with_reducible apply Turns.alloc) | (with_reducible refine Turns.via (by assumption) ?_))))) Hs0.out).mono ?_
  rintro e w9 ⟨t0, rfl, b9, Ft0⟩
  go_wp2_with fail
  refine (laws_eqVecS _ _ a _ (Ty.at_more (Ty.fresh_at Fx0) (Turns.more (by repeat (first | (with_reducible exact Turns.refl _ _) | (with_reducible apply Turns.drew) | (with_reducible apply Turns.drewN) | (with_reducible apply Turns.alloc) | (with_reducible refine Turns.via (by assumption) ?_))))) (Ty.at_more (Ty.fresh_at Ft0) (Turns.more (by repeat (first | (with_reducible exact Turns.refl _ _) | (with_reducible apply Turns.drew) | (with_reducible apply Turns.drewN) | (with_reducible apply Turns.alloc) | (with_reducible refine Turns.via (by assumption) ?_))))) (by have := Hs0.out; omega)).mono ?_
  rintro e w10 ⟨rfl, b10⟩
  go_wp2_with fail
  refine (laws_toVecS _ b _ (Ty.at_more HV1.out (Turns.more (by repeat (first | (with_reducible exact Turns.refl _ _) | (with_reducible apply Turns.drew) | (with_reducible apply Turns.drewN) | (with_reducible apply Turns.alloc) | (with_reducible refine Turns.via (by assumption) ?_))))) Hs1.out).mono ?_
  rintro e w11 ⟨t1, rfl, b11, Ft1⟩
  go_wp2_with fail
  refine (laws_eqVecS _ _ b _ (Ty.at_more (Ty.fresh_at Fx1) (Turns.more (by repeat (first | (with_reducible exact Turns.refl _ _) | (with_reducible apply Turns.drew) | (with_reducible apply Turns.drewN) | (with_reducible apply Turns.alloc) | (with_reducible refine Turns.via (by assumption) ?_))))) (Ty.at_more (Ty.fresh_at Ft1) (Turns.more (by repeat (first | (with_reducible exact Turns.refl _ _) | (with_reducible apply Turns.drew) | (with_reducible apply Turns.drewN) | (with_reducible apply Turns.alloc) | (with_reducible refine Turns.via (by assumption) ?_))))) (by have := Hs1.out; omega)).mono ?_
  rintro e w12 ⟨rfl, b12⟩
  go_wp2_with fail
  go_ret
  exact ⟨rfl, (Turns.more (by repeat (first | (with_reducible exact Turns.refl _ _) | (with_reducible apply Turns.drew) | (with_reducible apply Turns.drewN) | (with_reducible apply Turns.alloc) | (with_reducible refine Turns.via (by assumption) ?_))))⟩
end Go.Proofs.Ytejhibpaknjhnaa
