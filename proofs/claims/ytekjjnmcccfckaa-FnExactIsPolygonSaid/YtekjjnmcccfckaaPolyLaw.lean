/- FnExactIsPolygon returns true, for every list of vectors. -/
import Derived.Test.YtekjjnmcccfckaaPoly
namespace Go.Proofs.Ytekjjnmcccfckaa
open Go.RowKit
set_option maxHeartbeats 1600000 in
theorem law_IsPolygon {W : World} (v : Value) (l : List QV) (hv : tVecs.at W [v] l) :
    Calls Try.prog 8 #[v] W fun e w' => e = .returned (.bool true) ∧ More W w' := by
  have HV := Lib.hid hv; clear hv
  by_cases hn : l.length ≤ 1048576
  · have Hn := Lib.hid hn
    clear hn
    go_enter Try.func8, Try.ntmps8
    go_wp2_with fail
    refine (laws_szVecS _ l _ _ HV.out (by decide) (by decide)).mono ?_
    rintro e w1 ⟨rfl, b1⟩
    rw [szI_pos (by have := Hn.out; omega)]
    have z1 : 0 ≤ (1048576 : Int) - l.length := by have := Hn.out; omega
    go_wp2_with fail
    refine (laws_toVecS _ l _ (Ty.at_more HV.out b1) Hn.out).mono ?_
    rintro e w2 ⟨c, rfl, b2, F2⟩
    go_wp2_with fail
    refine (spec_IsPolygon _ l _ (Ty.fresh_at F2) Hn.out).mono ?_
    rintro e w3 ⟨rfl, b3⟩
    go_wp2_with fail
    have M3 := (b1.trans b2).trans b3
    refine (laws_toVecS _ l _ (Ty.at_more HV.out M3) Hn.out).mono ?_
    rintro e w4 ⟨x, rfl, b4, F4⟩
    go_wp2_with fail
    refine (impl_IsPolygon _ l _ (Ty.fresh_at F4) Hn.out).mono ?_
    rintro e w5 ⟨rfl, b5⟩
    go_wp2_with fail
    have M5 := (M3.trans b4).trans b5
    refine (laws_toVecS _ l _ (Ty.at_more HV.out M5) Hn.out).mono ?_
    rintro e w6 ⟨t, rfl, b6, F6⟩
    go_wp2_with fail
    refine (laws_eqVecS _ _ l _ (Ty.at_more (Ty.fresh_at F4) (b5.trans b6)) (Ty.fresh_at F6) (by have := Hn.out; omega)).mono ?_
    rintro e w7 ⟨rfl, b7⟩
    go_wp2_with fail
    go_ret
    exact ⟨rfl, (M5.trans b6).trans b7⟩
  · have hsz : szI l.length 1048576 = -1 := szI_neg (by omega)
    have Hs := Lib.hid hsz; clear hsz
    go_enter Try.func8, Try.ntmps8
    go_wp2_with fail
    refine (laws_szVecS _ l _ _ HV.out (by decide) (by decide)).mono ?_
    rintro e w1 ⟨rfl, b1⟩
    rw [Hs.out]
    go_wp2_with fail
    go_ret
    exact ⟨rfl, b1⟩
end Go.Proofs.Ytekjjnmcccfckaa
