/- FnExactSortRats returns true, for every input. -/
import Derived.Test.YtnbefpfijaimjaaSrw
import Derived.Test.YtnbefpfijaimjaaSzRatS
import Derived.Test.YtnbefpfijaimjaaToRatS
import Derived.Test.YtnbefpfijaimjaaEqRatS
import Derived.Test.YtnbefpfijaimjaaMkRatS
import Derived.Deep.RegionHeld3
namespace Go.Proofs.Ytnbefpfijaimjaa
open Go.RowKit
set_option maxHeartbeats 12800000 in
theorem law_SortRats {W : World} (v0 : Value) (l : List (QR)) (hv0 : tRatS.at W [v0] l) :
    Calls Try.prog 3 #[v0] W fun e w' => e = .returned (.bool true) ∧ More W w' := by
  have HV0 := Lib.hid hv0; clear hv0
  by_cases hn0 : ((wRatS l : Nat) : Int) ≤ 1048576
  rotate_left
  · have Hbad := Lib.hid hn0; clear hn0
    go_enter Try.func3, Try.ntmps3
    go_wp2_with fail
    refine (laws_szRatS _ l _ _ (Ty.at_more HV0.out mC) (by decide) (by decide)).mono ?_
    rintro e w1 ⟨rfl, b1⟩
    rw [szI_neg (by have := Hbad.out; omega)]
    go_wp2_with fail
    go_ret
    exact ⟨rfl, mC⟩
  have Hn0 := Lib.hid hn0
  have Hs0 : Hid (wRatS l ≤ 1048576) := Lib.hid (by omega)
  clear hn0
  obtain ⟨r, er⟩ : ∃ r, r = sRats l := ⟨_, rfl⟩
  have ER := Lib.hid er
  have HrL : Hid (wRatS r ≤ 1048576) := Lib.hid (by rw [er]; exact Nat.le_trans (sRats_w l) Hs0.out)
  clear er
  have HrC : Hid (cRatS r ≤ 8388608) := Lib.hid (by have h := cRatS_le r; have h2 := HrL.out; omega)
  have HC0 : Hid (cRatS l ≤ 8388608) := Lib.hid (by have h := cRatS_le l; have h2 := Hs0.out; omega)
  go_enter Try.func3, Try.ntmps3
  go_wp2_with fail
  refine (laws_szRatS _ l _ _ (Ty.at_more HV0.out mC) (by decide) (by decide)).mono ?_
  rintro e w1 ⟨rfl, b1⟩
  rw [szI_pos (by have := Hn0.out; omega)]
  have z0 : 0 ≤ (1048576 : Int) - (wRatS l : Nat) := by have := Hn0.out; omega
  go_wp2_with fail
  refine (laws_toRatS _ l _ (Ty.at_more HV0.out mC) Hs0.out).mono ?_
  rintro e w2 ⟨c0, rfl, b2, Fc0⟩
  go_wp2_with fail
  refine (spec_SortRatsL _ l _ (Ty.at_more (Ty.fresh_at Fc0) mC) Hs0.out).mono ?_
  rintro e w3 ⟨y, rfl, b3, Fy⟩
  rw [← ER.out] at Fy
  go_wp2_with fail
  refine (laws_toRatS _ l _ (Ty.at_more HV0.out mC) Hs0.out).mono ?_
  rintro e w4 ⟨x0, rfl, b4, bx0, X0, nx0, lx0⟩
  go_wp2_with fail
  refine (impl_SortRatsL _ l _ (Ty.at_more (Ty.rd_at (tRatS.own_rd X0)) mC) Hs0.out).mono ?_
  rintro e w5 ⟨g, rfl, b5, bg, G, ng, lg⟩
  rw [← ER.out] at G
  have lg_x0 : ∀ k ∈ bg, w4.heap.size ≤ k := fun k hk => Nat.le_trans (More.size (show More w4 _ from mC)) (lg k hk)
  go_wp2_with fail
  refine (laws_eqRatS _ _ r _ (Ty.at_more (Ty.rd_at (tRatS.own_rd G)) mC) (Ty.at_more (Fy) mC) HrL.out).mono ?_
  rintro e w6 ⟨rfl, b6⟩
  go_wp2_with fail
  refine (laws_toRatS _ l _ (Ty.at_more HV0.out mC) Hs0.out).mono ?_
  rintro e w7 ⟨t0, rfl, b7, Ft0⟩
  go_wp2_with fail
  refine (laws_eqRatS _ _ l _ (Ty.at_more (Ty.rd_at (tRatS.own_rd X0)) mC) (Ty.at_more (Ty.fresh_at Ft0) mC) Hs0.out).mono ?_
  rintro e w8 ⟨rfl, b8⟩
  go_wp2_with fail
  refine (laws_markRatS_ bx0 _ l _ _ (Ty.own_more X0 mC) nx0 (by omega) (by have h09 := HC0.out; have := HC0.out; omega) Hs0.out).mono ?_
  rintro e w9 ⟨rfl, T9, M9⟩
  have go9 := Ty.own_turns (Ty.own_more G mC) T9 (fun k hk hk' => by have h1 := lg_x0 k hk; have h2 := tRatS.own_lt X0 k hk'; omega)
  have b9 := More.turn (b4.trans mC) T9 lx0
  have k9 : ¬ (1 + ((cRatS l : Nat) : Int) < 0) := by omega
  go_wp2_with fail
  refine (laws_eqRatS _ _ r _ (Ty.at_more (Ty.rd_at (tRatS.own_rd go9)) mC) (Ty.at_more (Fy) mC) HrL.out).mono ?_
  rintro e w10 ⟨rfl, b10⟩
  go_wp2_with fail
  refine (laws_markRatS_ bg _ r _ _ (Ty.own_more go9 mC) ng (by omega) (by have h09 := HC0.out; have := HrC.out; omega) HrL.out).mono ?_
  rintro e w11 ⟨rfl, T11, M11⟩
  have b11 := More.turn (b9.trans mC) T11 (fun k hk => Nat.le_trans (More.size (b4.trans mC)) (lg k hk))
  go_wp2_with fail
  refine (laws_heldRatS_ _ r _ _ (Ty.at_more (Ty.rd_at (tRatS.own_rd M11)) mC) (by decide) (by have := HrC.out; omega) HrL.out).mono ?_
  rintro e w12 ⟨rfl, b12⟩
  have q12 : ¬ ((1 : Int) + ((cRatS r : Nat) : Int) < 0) := by omega
  go_wp2_with fail
  refine (laws_toRatS _ l _ (Ty.at_more HV0.out mC) Hs0.out).mono ?_
  rintro e w13 ⟨z0, rfl, b13, Fz0⟩
  go_wp2_with fail
  refine (impl_SortRatsL _ l _ (Ty.at_more (Ty.fresh_at Fz0) mC) Hs0.out).mono ?_
  rintro e w14 ⟨h, rfl, b14, Fh⟩
  rw [← ER.out] at Fh
  go_wp2_with fail
  refine (laws_eqRatS _ _ r _ (Ty.at_more (Ty.fresh_at Fh) mC) (Ty.at_more (Fy) mC) HrL.out).mono ?_
  rintro e w15 ⟨rfl, b15⟩
  go_wp2_with fail
  refine (laws_heldRatS_ _ r _ _ (Ty.at_more (Ty.rd_at (tRatS.own_rd M11)) mC) (by decide) (by have := HrC.out; omega) HrL.out).mono ?_
  rintro e w16 ⟨rfl, b16⟩
  have q16 : ¬ ((1 : Int) + ((cRatS r : Nat) : Int) < 0) := by omega
  go_wp2_with fail
  go_ret
  exact ⟨rfl, mC⟩
end Go.Proofs.Ytnbefpfijaimjaa
