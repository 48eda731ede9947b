/- FnExactSamePolygon returns true, for every input. -/
import Derived.Test.YtekjjnmcccfckaaSame
namespace Go.Proofs.Ytekjjnmcccfckaa
open Go.RowKit
set_option maxHeartbeats 3200000 in
theorem law_SamePolygon {W : World} (v0 : Value) (l : List QV) (hv0 : tVecs.at W [v0] l) (v1 : Value) (m : List QV) (hv1 : tVecs.at W [v1] m) :
    Calls Try.prog 10 #[v0, v1] W fun e w' => e = .returned (.bool true) ∧ More W w' := by
  have HV0 := Lib.hid hv0; clear hv0
  have HV1 := Lib.hid hv1; clear hv1
  by_cases hn0 : ((l.length : Nat) : Int) ≤ 1048576
  rotate_left
  · have Hbad := Lib.hid hn0
    clear hn0
    go_enter Try.func10, Try.ntmps10
    go_wp2_with fail
    refine (laws_szVecS _ l _ _ HV0.out (by decide) (by decide)).mono ?_
    rintro e w1 ⟨rfl, b1⟩
    rw [szI_neg (by have := Hbad.out; omega)]
    go_wp2_with fail
    go_ret
    exact ⟨rfl, b1⟩
  by_cases hn1 : ((m.length : Nat) : Int) ≤ 1048576 - (l.length : Nat)
  rotate_left
  · have Hbad := Lib.hid hn1
    have Hn0 := Lib.hid hn0; clear hn0
    clear hn1
    go_enter Try.func10, Try.ntmps10
    go_wp2_with fail
    refine (laws_szVecS _ l _ _ HV0.out (by decide) (by decide)).mono ?_
    rintro e w1 ⟨rfl, b1⟩
    rw [szI_pos (by have := Hn0.out; omega)]
    have z0 : 0 ≤ (1048576 : Int) - (l.length : Nat) := by have := Hn0.out; omega
    go_wp2_with fail
    refine (laws_szVecS _ m _ _ (Ty.at_more HV1.out b1) (by have := Hn0.out; omega) (by omega)).mono ?_
    rintro e w2 ⟨rfl, b2⟩
    rw [szI_neg (by have := Hbad.out; omega)]
    go_wp2_with fail
    go_ret
    exact ⟨rfl, (b1.trans b2)⟩
  have Hn0 := Lib.hid hn0
  have Hn1 := Lib.hid hn1
  have Hs0 : Hid (l.length ≤ 1048576) := Lib.hid (by omega)
  have Hs1 : Hid (m.length ≤ 1048576) := Lib.hid (by omega)
  clear hn0 hn1
  go_enter Try.func10, Try.ntmps10
  go_wp2_with fail
  refine (laws_szVecS _ l _ _ HV0.out (by decide) (by decide)).mono ?_
  rintro e w1 ⟨rfl, b1⟩
  rw [szI_pos (by have := Hn0.out; omega)]
  have z0 : 0 ≤ (1048576 : Int) - (l.length : Nat) := by have := Hn0.out; omega
  go_wp2_with fail
  refine (laws_szVecS _ m _ _ (Ty.at_more HV1.out b1) (by have := Hn0.out; omega) (by omega)).mono ?_
  rintro e w2 ⟨rfl, b2⟩
  rw [szI_pos (by have := Hn1.out; omega)]
  have z1 : 0 ≤ (1048576 : Int) - (l.length : Nat) - (m.length : Nat) := by have := Hn1.out; omega
  go_wp2_with fail
  refine (laws_toVecS _ l _ (Ty.at_more HV0.out (b1.trans b2)) Hs0.out).mono ?_
  rintro e w3 ⟨c0, rfl, b3, Fc0⟩
  go_wp2_with fail
  refine (laws_toVecS _ m _ (Ty.at_more HV1.out ((b1.trans b2).trans b3)) Hs1.out).mono ?_
  rintro e w4 ⟨c1, rfl, b4, Fc1⟩
  go_wp2_with fail
  refine (spec_SamePolygon _ _ l m _ (Ty.at_more (Ty.fresh_at Fc0) b4) (Ty.fresh_at Fc1) Hs0.out Hs1.out).mono ?_
  rintro e w5 ⟨rfl, b5⟩
  go_wp2_with fail
  refine (laws_toVecS _ l _ (Ty.at_more HV0.out ((((b1.trans b2).trans b3).trans b4).trans b5)) Hs0.out).mono ?_
  rintro e w6 ⟨x0, rfl, b6, bx0, X0, nx0, lx0⟩
  go_wp2_with fail
  refine (laws_toVecS _ m _ (Ty.at_more HV1.out (((((b1.trans b2).trans b3).trans b4).trans b5).trans b6)) Hs1.out).mono ?_
  rintro e w7 ⟨x1, rfl, b7, bx1, X1, nx1, lx1⟩
  go_wp2_with fail
  refine (impl_SamePolygon _ _ l m _ (Ty.at_more (Ty.rd_at (tVecs.own_rd X0)) b7) (Ty.rd_at (tVecs.own_rd X1)) Hs0.out Hs1.out).mono ?_
  rintro e w8 ⟨rfl, b8⟩
  go_wp2_with fail
  refine (laws_toVecS _ l _ (Ty.at_more HV0.out (((((((b1.trans b2).trans b3).trans b4).trans b5).trans b6).trans b7).trans b8)) Hs0.out).mono ?_
  rintro e w9 ⟨t0, rfl, b9, Ft0⟩
  go_wp2_with fail
  refine (laws_eqVecS _ _ l _ (Ty.at_more (Ty.rd_at (tVecs.own_rd X0)) ((b7.trans b8).trans b9)) (Ty.fresh_at Ft0) (by have := Hs0.out; omega)).mono ?_
  rintro e w10 ⟨rfl, b10⟩
  go_wp2_with fail
  refine (laws_toVecS _ m _ (Ty.at_more HV1.out (((((((((b1.trans b2).trans b3).trans b4).trans b5).trans b6).trans b7).trans b8).trans b9).trans b10)) Hs1.out).mono ?_
  rintro e w11 ⟨t1, rfl, b11, Ft1⟩
  go_wp2_with fail
  refine (laws_eqVecS _ _ m _ (Ty.at_more (Ty.rd_at (tVecs.own_rd X1)) (((b8.trans b9).trans b10).trans b11)) (Ty.fresh_at Ft1) (by have := Hs1.out; omega)).mono ?_
  rintro e w12 ⟨rfl, b12⟩
  go_wp2_with fail
  go_ret
  exact ⟨rfl, (((((((((((b1.trans b2).trans b3).trans b4).trans b5).trans b6).trans b7).trans b8).trans b9).trans b10).trans b11).trans b12)⟩
end Go.Proofs.Ytekjjnmcccfckaa
