/- FnExactRegionsFrom returns true, for every input. -/
import Derived.Test.YtbbibfeblaocfaaRgs
import Derived.Test.YtbbibfeblaocfaaSzRoad
import Derived.Test.YtbbibfeblaocfaaToRoad
import Derived.Test.YtbbibfeblaocfaaEqRoad
import Derived.Test.YtbbibfeblaocfaaMkRoad
import Derived.Test.YtbbibfeblaocfaaLdm
import Derived.Test.YtbbibfeblaocfaaMan
import Derived.Deep.RegionHeld3
namespace Go.Proofs.Ytbbibfeblaocfaa
open Go.RowKit
set_option maxRecDepth 8000 in
set_option maxHeartbeats 12800000 in
theorem law_RegionsFrom {W : World} (ca0 : Array Value) (x : QRoad) (hv0 : tRoad.at W ca0.toList x) (h : Int) (hi1 : In64 h) :
    Calls Try.prog 7 #[.agg ca0, .int .i64 h] W fun e w' => e = .returned (.bool true) ∧ More W w' := by
  obtain ⟨s0a4, s0n4, s0c4, s0a5, s0n5, s0c5, s0a6, s0n6, s0c6, s0a7, s0n7, s0c7, s0a8, s0n8, s0c8, s0a9, s0n9, s0c9, es0⟩ := sh_Road hv0
  rw [es0] at hv0
  obtain rfl := arr_of es0
  clear es0
  have HV0 := Lib.hid hv0; clear hv0
  have HI1 := Lib.hid hi1; clear hi1
  by_cases hn0 : ((wRoad x : Nat) : Int) ≤ 1048576
  rotate_left
  · have Hbad := Lib.hid hn0; clear hn0
    have HBa0 : ∀ w', More (W.alloc (.cells #[.int .i64 x.1.1.1, .int .i64 x.1.1.2, .int .i64 x.1.2.1.1, .int .i64 x.1.2.1.2, .slice s0a4 s0n4 s0c4, .slice s0a5 s0n5 s0c5, .slice s0a6 s0n6 s0c6, .slice s0a7 s0n7 s0c7, .slice s0a8 s0n8 s0c8, .slice s0a9 s0n9 s0c9] 75)) w' → w'.rangeAt (W.heap.size) 0 [.int .i64 x.1.1.1, .int .i64 x.1.1.2, .int .i64 x.1.2.1.1, .int .i64 x.1.2.1.2, .slice s0a4 s0n4 s0c4, .slice s0a5 s0n5 s0c5, .slice s0a6 s0n6 s0c6, .slice s0a7 s0n7 s0c7, .slice s0a8 s0n8 s0c8, .slice s0a9 s0n9 s0c9] := fun w' h => box_range (by simp) h
    go_enter Try.func7, Try.ntmps7
    go_wp2_with (first | (refine wpList_load_mid rfl _ _ rfl (W.heap.size) 0 rfl _ _ (HBa0 _ mC) Try.underlying75 rfl (by kernel_rfl) ?_))
    refine (laws_szRoad _ x _ _ (Ty.at_more HV0.out mC) (by decide) (by decide)).mono ?_
    rintro e w1 ⟨rfl, b1⟩
    have HBa0_1 := HBa0 w1 mC
    have HBa0s1 : W.heap.size < w1.heap.size := by have := More.size (show More (W.alloc (.cells #[.int .i64 x.1.1.1, .int .i64 x.1.1.2, .int .i64 x.1.2.1.1, .int .i64 x.1.2.1.2, .slice s0a4 s0n4 s0c4, .slice s0a5 s0n5 s0c5, .slice s0a6 s0n6 s0c6, .slice s0a7 s0n7 s0c7, .slice s0a8 s0n8 s0c8, .slice s0a9 s0n9 s0c9] 75)) w1 from mC); simp at this; omega
    rw [szI_neg (by have := Hbad.out; omega)]
    go_wp2_with (first | (refine wpList_load_mid rfl _ _ rfl (W.heap.size) 0 rfl _ _ (HBa0 _ mC) Try.underlying75 rfl (by kernel_rfl) ?_))
    go_ret
    exact ⟨rfl, mC⟩
  have Hn0 := Lib.hid hn0
  have Hs0 : Hid (wRoad x ≤ 1048576) := Lib.hid (by omega)
  clear hn0
  obtain ⟨r, er⟩ : ∃ r, r = regF x.2.2.2 h := ⟨_, rfl⟩
  have ER := Lib.hid er
  have HrL : Hid (wIntS r ≤ 1048576) := Lib.hid (by rw [er]; exact regF_len h Hs0.out)
  clear er
  have HrC : Hid (cIntS r ≤ 8388608) := Lib.hid (by have h := cIntS_le r; have h2 := HrL.out; omega)
  have HC0 : Hid (cRoad x ≤ 8388608) := Lib.hid (by have h := cRoad_le x; have h2 := Hs0.out; omega)
  have HBa0 : ∀ w', More (W.alloc (.cells #[.int .i64 x.1.1.1, .int .i64 x.1.1.2, .int .i64 x.1.2.1.1, .int .i64 x.1.2.1.2, .slice s0a4 s0n4 s0c4, .slice s0a5 s0n5 s0c5, .slice s0a6 s0n6 s0c6, .slice s0a7 s0n7 s0c7, .slice s0a8 s0n8 s0c8, .slice s0a9 s0n9 s0c9] 75)) w' → w'.rangeAt (W.heap.size) 0 [.int .i64 x.1.1.1, .int .i64 x.1.1.2, .int .i64 x.1.2.1.1, .int .i64 x.1.2.1.2, .slice s0a4 s0n4 s0c4, .slice s0a5 s0n5 s0c5, .slice s0a6 s0n6 s0c6, .slice s0a7 s0n7 s0c7, .slice s0a8 s0n8 s0c8, .slice s0a9 s0n9 s0c9] := fun w' h => box_range (by simp) h
  go_enter Try.func7, Try.ntmps7
  go_wp2_with (first | (refine wpList_load_mid rfl _ _ rfl (W.heap.size) 0 rfl _ _ (HBa0 _ mC) Try.underlying75 rfl (by kernel_rfl) ?_))
  refine (laws_szRoad _ x _ _ (Ty.at_more HV0.out mC) (by decide) (by decide)).mono ?_
  rintro e w1 ⟨rfl, b1⟩
  have HBa0_1 := HBa0 w1 mC
  have HBa0s1 : W.heap.size < w1.heap.size := by have := More.size (show More (W.alloc (.cells #[.int .i64 x.1.1.1, .int .i64 x.1.1.2, .int .i64 x.1.2.1.1, .int .i64 x.1.2.1.2, .slice s0a4 s0n4 s0c4, .slice s0a5 s0n5 s0c5, .slice s0a6 s0n6 s0c6, .slice s0a7 s0n7 s0c7, .slice s0a8 s0n8 s0c8, .slice s0a9 s0n9 s0c9] 75)) w1 from mC); simp at this; omega
  rw [szI_pos (by have := Hn0.out; omega)]
  have z0 : 0 ≤ (1048576 : Int) - (wRoad x : Nat) := by have := Hn0.out; omega
  go_wp2_with (first | (refine wpList_load_mid rfl _ _ rfl (W.heap.size) 0 rfl _ _ (HBa0 _ mC) Try.underlying75 rfl (by kernel_rfl) ?_))
  refine (laws_toRoad _ x _ (Ty.at_more HV0.out mC) Hs0.out).mono ?_
  rintro e w2 ⟨c0, rfl, b2, Fc0⟩
  have HBa0_2 := HBa0 w2 mC
  have HBa0s2 : W.heap.size < w2.heap.size := by have := More.size (show More (W.alloc (.cells #[.int .i64 x.1.1.1, .int .i64 x.1.1.2, .int .i64 x.1.2.1.1, .int .i64 x.1.2.1.2, .slice s0a4 s0n4 s0c4, .slice s0a5 s0n5 s0c5, .slice s0a6 s0n6 s0c6, .slice s0a7 s0n7 s0c7, .slice s0a8 s0n8 s0c8, .slice s0a9 s0n9 s0c9] 75)) w2 from mC); simp at this; omega
  try clear HBa0_1
  try clear HBa0s1
  obtain ⟨c0za4, c0zn4, c0zc4, c0za5, c0zn5, c0zc5, c0za6, c0zn6, c0zc6, c0za7, c0zn7, c0zc7, c0za8, c0zn8, c0zc8, c0za9, c0zn9, c0zc9, rfl⟩ := sh_Road (Ty.fresh_at Fc0)
  go_wp2_with (first | (refine wpList_load_mid rfl _ _ rfl (W.heap.size) 0 rfl _ _ (HBa0 _ mC) Try.underlying75 rfl (by kernel_rfl) ?_))
  refine (spec_RegionsFrom _ x h _ (Ty.at_more (Ty.fresh_at Fc0) mC) Hs0.out HI1.out).mono ?_
  rintro e w3 ⟨y, rfl, b3, Fy⟩
  rw [← ER.out] at Fy
  have HBa0_3 := HBa0 w3 mC
  have HBa0s3 : W.heap.size < w3.heap.size := by have := More.size (show More (W.alloc (.cells #[.int .i64 x.1.1.1, .int .i64 x.1.1.2, .int .i64 x.1.2.1.1, .int .i64 x.1.2.1.2, .slice s0a4 s0n4 s0c4, .slice s0a5 s0n5 s0c5, .slice s0a6 s0n6 s0c6, .slice s0a7 s0n7 s0c7, .slice s0a8 s0n8 s0c8, .slice s0a9 s0n9 s0c9] 75)) w3 from mC); simp at this; omega
  try clear HBa0_2
  try clear HBa0s2
  go_wp2_with (first | (refine wpList_load_mid rfl _ _ rfl (W.heap.size) 0 rfl _ _ (HBa0 _ mC) Try.underlying75 rfl (by kernel_rfl) ?_))
  refine (laws_toRoad _ x _ (Ty.at_more HV0.out mC) Hs0.out).mono ?_
  rintro e w4 ⟨x0, rfl, b4, bx0, X0, nx0, lx0⟩
  have HBa0ltx0 : ∀ k ∈ bx0, W.heap.size < k := fun k hk => Nat.lt_of_lt_of_le (show W.heap.size < ((W.alloc (.cells #[.int .i64 x.1.1.1, .int .i64 x.1.1.2, .int .i64 x.1.2.1.1, .int .i64 x.1.2.1.2, .slice s0a4 s0n4 s0c4, .slice s0a5 s0n5 s0c5, .slice s0a6 s0n6 s0c6, .slice s0a7 s0n7 s0c7, .slice s0a8 s0n8 s0c8, .slice s0a9 s0n9 s0c9] 75))).heap.size from by simp) (Nat.le_trans (More.size (show More ((W.alloc (.cells #[.int .i64 x.1.1.1, .int .i64 x.1.1.2, .int .i64 x.1.2.1.1, .int .i64 x.1.2.1.2, .slice s0a4 s0n4 s0c4, .slice s0a5 s0n5 s0c5, .slice s0a6 s0n6 s0c6, .slice s0a7 s0n7 s0c7, .slice s0a8 s0n8 s0c8, .slice s0a9 s0n9 s0c9] 75))) _ from mC)) (lx0 k hk))
  obtain ⟨x0za4, x0zn4, x0zc4, x0za5, x0zn5, x0zc5, x0za6, x0zn6, x0zc6, x0za7, x0zn7, x0zc7, x0za8, x0zn8, x0zc8, x0za9, x0zn9, x0zc9, rfl⟩ := sh_Road (Ty.rd_at (tRoad.own_rd X0))
  have HBa0_4 := HBa0 w4 mC
  have HBa0s4 : W.heap.size < w4.heap.size := by have := More.size (show More (W.alloc (.cells #[.int .i64 x.1.1.1, .int .i64 x.1.1.2, .int .i64 x.1.2.1.1, .int .i64 x.1.2.1.2, .slice s0a4 s0n4 s0c4, .slice s0a5 s0n5 s0c5, .slice s0a6 s0n6 s0c6, .slice s0a7 s0n7 s0c7, .slice s0a8 s0n8 s0c8, .slice s0a9 s0n9 s0c9] 75)) w4 from mC); simp at this; omega
  try clear HBa0_3
  try clear HBa0s3
  have HBx0 : ∀ w', More (w4.alloc (.cells #[.int .i64 x.1.1.1, .int .i64 x.1.1.2, .int .i64 x.1.2.1.1, .int .i64 x.1.2.1.2, .slice x0za4 x0zn4 x0zc4, .slice x0za5 x0zn5 x0zc5, .slice x0za6 x0zn6 x0zc6, .slice x0za7 x0zn7 x0zc7, .slice x0za8 x0zn8 x0zc8, .slice x0za9 x0zn9 x0zc9] 80)) w' → w'.rangeAt (w4.heap.size) 0 [.int .i64 x.1.1.1, .int .i64 x.1.1.2, .int .i64 x.1.2.1.1, .int .i64 x.1.2.1.2, .slice x0za4 x0zn4 x0zc4, .slice x0za5 x0zn5 x0zc5, .slice x0za6 x0zn6 x0zc6, .slice x0za7 x0zn7 x0zc7, .slice x0za8 x0zn8 x0zc8, .slice x0za9 x0zn9 x0zc9] := fun w' h => box_range (by simp) h
  have HBx0gex0 : w4.heap.size ≤ w4.heap.size := by have := More.size (show More w4 w4 from mC); omega
  go_wp2_with (first | (refine wpList_load_mid rfl _ _ rfl (W.heap.size) 0 rfl _ _ (HBa0 _ mC) Try.underlying75 rfl (by kernel_rfl) ?_) | (refine wpList_load_mid rfl _ _ rfl (w4.heap.size) 0 rfl _ _ (HBx0 _ mC) Try.underlying80 rfl (by kernel_rfl) ?_))
  refine (impl_RegionsFrom _ x h _ (Ty.at_more (Ty.rd_at (tRoad.own_rd X0)) mC) Hs0.out HI1.out).mono ?_
  rintro e w5 ⟨g, rfl, b5, bg, G, ng, lg⟩
  rw [← ER.out] at G
  have HBa0_5 := HBa0 w5 mC
  have HBa0s5 : W.heap.size < w5.heap.size := by have := More.size (show More (W.alloc (.cells #[.int .i64 x.1.1.1, .int .i64 x.1.1.2, .int .i64 x.1.2.1.1, .int .i64 x.1.2.1.2, .slice s0a4 s0n4 s0c4, .slice s0a5 s0n5 s0c5, .slice s0a6 s0n6 s0c6, .slice s0a7 s0n7 s0c7, .slice s0a8 s0n8 s0c8, .slice s0a9 s0n9 s0c9] 75)) w5 from mC); simp at this; omega
  try clear HBa0_4
  try clear HBa0s4
  have HBx0_5 := HBx0 w5 mC
  have HBx0s5 : w4.heap.size < w5.heap.size := by have := More.size (show More (w4.alloc (.cells #[.int .i64 x.1.1.1, .int .i64 x.1.1.2, .int .i64 x.1.2.1.1, .int .i64 x.1.2.1.2, .slice x0za4 x0zn4 x0zc4, .slice x0za5 x0zn5 x0zc5, .slice x0za6 x0zn6 x0zc6, .slice x0za7 x0zn7 x0zc7, .slice x0za8 x0zn8 x0zc8, .slice x0za9 x0zn9 x0zc9] 80)) w5 from mC); simp at this; omega
  try clear HBx0_4
  try clear HBx0s4
  have HBa0ltg : ∀ k ∈ bg, W.heap.size < k := fun k hk => Nat.lt_of_lt_of_le (show W.heap.size < ((W.alloc (.cells #[.int .i64 x.1.1.1, .int .i64 x.1.1.2, .int .i64 x.1.2.1.1, .int .i64 x.1.2.1.2, .slice s0a4 s0n4 s0c4, .slice s0a5 s0n5 s0c5, .slice s0a6 s0n6 s0c6, .slice s0a7 s0n7 s0c7, .slice s0a8 s0n8 s0c8, .slice s0a9 s0n9 s0c9] 75))).heap.size from by simp) (Nat.le_trans (More.size (show More ((W.alloc (.cells #[.int .i64 x.1.1.1, .int .i64 x.1.1.2, .int .i64 x.1.2.1.1, .int .i64 x.1.2.1.2, .slice s0a4 s0n4 s0c4, .slice s0a5 s0n5 s0c5, .slice s0a6 s0n6 s0c6, .slice s0a7 s0n7 s0c7, .slice s0a8 s0n8 s0c8, .slice s0a9 s0n9 s0c9] 75))) _ from mC)) (lg k hk))
  have HBx0ltg : ∀ k ∈ bg, w4.heap.size < k := fun k hk => Nat.lt_of_lt_of_le (show w4.heap.size < ((w4.alloc (.cells #[.int .i64 x.1.1.1, .int .i64 x.1.1.2, .int .i64 x.1.2.1.1, .int .i64 x.1.2.1.2, .slice x0za4 x0zn4 x0zc4, .slice x0za5 x0zn5 x0zc5, .slice x0za6 x0zn6 x0zc6, .slice x0za7 x0zn7 x0zc7, .slice x0za8 x0zn8 x0zc8, .slice x0za9 x0zn9 x0zc9] 80))).heap.size from by simp) (Nat.le_trans (More.size (show More ((w4.alloc (.cells #[.int .i64 x.1.1.1, .int .i64 x.1.1.2, .int .i64 x.1.2.1.1, .int .i64 x.1.2.1.2, .slice x0za4 x0zn4 x0zc4, .slice x0za5 x0zn5 x0zc5, .slice x0za6 x0zn6 x0zc6, .slice x0za7 x0zn7 x0zc7, .slice x0za8 x0zn8 x0zc8, .slice x0za9 x0zn9 x0zc9] 80))) _ from mC)) (lg k hk))
  have lg_x0 : ∀ k ∈ bg, w4.heap.size ≤ k := fun k hk => Nat.le_trans (More.size (show More w4 _ from mC)) (lg k hk)
  go_wp2_with (first | (refine wpList_load_mid rfl _ _ rfl (W.heap.size) 0 rfl _ _ (HBa0 _ mC) Try.underlying75 rfl (by kernel_rfl) ?_) | (refine wpList_load_mid rfl _ _ rfl (w4.heap.size) 0 rfl _ _ (HBx0 _ mC) Try.underlying80 rfl (by kernel_rfl) ?_))
  refine (laws_eqIntS _ _ r _ (Ty.at_more (Ty.rd_at (tInts.own_rd G)) mC) (Ty.at_more (Ty.fresh_at Fy) mC) (by have := HrL.out; unfold wIntS at this; omega)).mono ?_
  rintro e w6 ⟨rfl, b6⟩
  have HBa0_6 := HBa0 w6 mC
  have HBa0s6 : W.heap.size < w6.heap.size := by have := More.size (show More (W.alloc (.cells #[.int .i64 x.1.1.1, .int .i64 x.1.1.2, .int .i64 x.1.2.1.1, .int .i64 x.1.2.1.2, .slice s0a4 s0n4 s0c4, .slice s0a5 s0n5 s0c5, .slice s0a6 s0n6 s0c6, .slice s0a7 s0n7 s0c7, .slice s0a8 s0n8 s0c8, .slice s0a9 s0n9 s0c9] 75)) w6 from mC); simp at this; omega
  try clear HBa0_5
  try clear HBa0s5
  have HBx0_6 := HBx0 w6 mC
  have HBx0s6 : w4.heap.size < w6.heap.size := by have := More.size (show More (w4.alloc (.cells #[.int .i64 x.1.1.1, .int .i64 x.1.1.2, .int .i64 x.1.2.1.1, .int .i64 x.1.2.1.2, .slice x0za4 x0zn4 x0zc4, .slice x0za5 x0zn5 x0zc5, .slice x0za6 x0zn6 x0zc6, .slice x0za7 x0zn7 x0zc7, .slice x0za8 x0zn8 x0zc8, .slice x0za9 x0zn9 x0zc9] 80)) w6 from mC); simp at this; omega
  try clear HBx0_5
  try clear HBx0s5
  go_wp2_with (first | (refine wpList_load_mid rfl _ _ rfl (W.heap.size) 0 rfl _ _ (HBa0 _ mC) Try.underlying75 rfl (by kernel_rfl) ?_) | (refine wpList_load_mid rfl _ _ rfl (w4.heap.size) 0 rfl _ _ (HBx0 _ mC) Try.underlying80 rfl (by kernel_rfl) ?_))
  have RHBa0 := fun (w' : World) (h : More w6 w') => HBa0 w' (More.trans (show More ((W.alloc (.cells #[.int .i64 x.1.1.1, .int .i64 x.1.1.2, .int .i64 x.1.2.1.1, .int .i64 x.1.2.1.2, .slice s0a4 s0n4 s0c4, .slice s0a5 s0n5 s0c5, .slice s0a6 s0n6 s0c6, .slice s0a7 s0n7 s0c7, .slice s0a8 s0n8 s0c8, .slice s0a9 s0n9 s0c9] 75))) w6 from mC) h)
  clear HBa0_6
  have RHBx0 := fun (w' : World) (h : More w6 w') => HBx0 w' (More.trans (show More ((w4.alloc (.cells #[.int .i64 x.1.1.1, .int .i64 x.1.1.2, .int .i64 x.1.2.1.1, .int .i64 x.1.2.1.2, .slice x0za4 x0zn4 x0zc4, .slice x0za5 x0zn5 x0zc5, .slice x0za6 x0zn6 x0zc6, .slice x0za7 x0zn7 x0zc7, .slice x0za8 x0zn8 x0zc8, .slice x0za9 x0zn9 x0zc9] 80))) w6 from mC) h)
  clear HBx0_6
  refine wp_region_held_drew (S := (fun w' => More w6 w')) (by kernel_rfl) ?_ (fun hHeld => ?_)
  · first | exact More.refl _ | exact mC
  refine tk (v := .agg ([.int .i64 x.1.1.1, .int .i64 x.1.1.2, .int .i64 x.1.2.1.1, .int .i64 x.1.2.1.2, .slice x0za4 x0zn4 x0zc4, .slice x0za5 x0zn5 x0zc5, .slice x0za6 x0zn6 x0zc6, .slice x0za7 x0zn7 x0zc7, .slice x0za8 x0zn8 x0zc8, .slice x0za9 x0zn9 x0zc9] : List Value).toArray) 0 ⟨some 31, _, _, _, _, _⟩ rfl ?_ (fun w9 hSw => run_ld _ _ rfl (w4.heap.size) 0 rfl [.int .i64 x.1.1.1, .int .i64 x.1.1.2, .int .i64 x.1.2.1.1, .int .i64 x.1.2.1.2, .slice x0za4 x0zn4 x0zc4, .slice x0za5 x0zn5 x0zc5, .slice x0za6 x0zn6 x0zc6, .slice x0za7 x0zn7 x0zc7, .slice x0za8 x0zn8 x0zc8, .slice x0za9 x0zn9 x0zc9] _ (RHBx0 w9 hSw) Try.underlying80 rfl (by kernel_rfl))
  (try simp only [Act.put, List.setIfInBounds_toArray, List.set_cons_zero, List.set_cons_succ])
  refine tk (v := .agg ([.int .i64 x.1.1.1, .int .i64 x.1.1.2, .int .i64 x.1.2.1.1, .int .i64 x.1.2.1.2, .slice s0a4 s0n4 s0c4, .slice s0a5 s0n5 s0c5, .slice s0a6 s0n6 s0c6, .slice s0a7 s0n7 s0c7, .slice s0a8 s0n8 s0c8, .slice s0a9 s0n9 s0c9] : List Value).toArray) 1 ⟨some 32, _, _, _, _, _⟩ rfl ?_ (fun w9 hSw => run_ld _ _ rfl (W.heap.size) 0 rfl [.int .i64 x.1.1.1, .int .i64 x.1.1.2, .int .i64 x.1.2.1.1, .int .i64 x.1.2.1.2, .slice s0a4 s0n4 s0c4, .slice s0a5 s0n5 s0c5, .slice s0a6 s0n6 s0c6, .slice s0a7 s0n7 s0c7, .slice s0a8 s0n8 s0c8, .slice s0a9 s0n9 s0c9] _ (RHBa0 w9 hSw) Try.underlying75 rfl (by kernel_rfl))
  (try simp only [Act.put, List.setIfInBounds_toArray, List.set_cons_zero, List.set_cons_succ])
  refine wpAnyH_ready (rs := [2]) (by kernel_rfl) (by simp) ?_
  refine AllReadyH.cons (o := ⟨some 33, _, _, _, _, _⟩) rfl (fun K hK => ?_) AllReadyH.nil
  go_simp
  (go_at_call 36; (with_reducible refine (laws_toRoad _ x _ (Ty.at_more HV0.out mC) Hs0.out).mono ?_); rintro e w7 ⟨t0, rfl, b7, Ft0⟩; obtain ⟨t0za4, t0zn4, t0zc4, t0za5, t0zn5, t0zc5, t0za6, t0zn6, t0zc6, t0za7, t0zn7, t0zc7, t0za8, t0zn8, t0zc8, t0za9, t0zn9, t0zc9, rfl⟩ := sh_Road (Ty.fresh_at Ft0))
  refine hK.out _ _ ?_ (fun hHeld => ?_)
  · first | exact More.refl _ | exact mC
  clear hK K
  (try simp only [Act.put, List.setIfInBounds_toArray, List.set_cons_zero, List.set_cons_succ])
  refine wpAnyH_ready (rs := [3]) (by kernel_rfl) (by simp) ?_
  refine AllReadyH.cons (o := ⟨some 34, _, _, _, _, _⟩) rfl (fun K hK => ?_) AllReadyH.nil
  go_simp
  (go_at_call 38; (with_reducible refine (laws_eqRoad _ _ x _ (Ty.at_more (Ty.rd_at (tRoad.own_rd X0)) mC) (Ty.at_more (Ty.fresh_at Ft0) (Turns.more (by ((repeat (first | (with_reducible apply Turns.drew) | (with_reducible apply Turns.drewN) | (with_reducible apply Turns.alloc))); exact Turns.refl _ _)))) Hs0.out).mono ?_); rintro e w8 ⟨rfl, b8⟩)
  refine hK.out _ _ ?_ (fun hHeld => ?_)
  · first | exact More.refl _ | exact mC
  clear hK K
  (try simp only [Act.put, List.setIfInBounds_toArray, List.set_cons_zero, List.set_cons_succ])
  refine tk (v := ?_) 4 ⟨some 35, _, _, _, _, _⟩ rfl ?_ ?_
  rotate_left 2
  · (intro w hSw; (try dsimp only at hSw); go_simp; (try with_reducible rfl))
  (try simp only [Act.put, List.setIfInBounds_toArray, List.set_cons_zero, List.set_cons_succ])
  refine wpAnyH_done (by kernel_rfl) ?_ _
  clear RHBa0
  clear RHBx0
  have HBa0_8 := HBa0 w8 mC
  have HBa0s8 : W.heap.size < w8.heap.size := by have := More.size (show More (W.alloc (.cells #[.int .i64 x.1.1.1, .int .i64 x.1.1.2, .int .i64 x.1.2.1.1, .int .i64 x.1.2.1.2, .slice s0a4 s0n4 s0c4, .slice s0a5 s0n5 s0c5, .slice s0a6 s0n6 s0c6, .slice s0a7 s0n7 s0c7, .slice s0a8 s0n8 s0c8, .slice s0a9 s0n9 s0c9] 75)) w8 from mC); simp at this; omega
  try clear HBa0_7
  try clear HBa0s7
  have HBx0_8 := HBx0 w8 mC
  have HBx0s8 : w4.heap.size < w8.heap.size := by have := More.size (show More (w4.alloc (.cells #[.int .i64 x.1.1.1, .int .i64 x.1.1.2, .int .i64 x.1.2.1.1, .int .i64 x.1.2.1.2, .slice x0za4 x0zn4 x0zc4, .slice x0za5 x0zn5 x0zc5, .slice x0za6 x0zn6 x0zc6, .slice x0za7 x0zn7 x0zc7, .slice x0za8 x0zn8 x0zc8, .slice x0za9 x0zn9 x0zc9] 80)) w8 from mC); simp at this; omega
  try clear HBx0_7
  try clear HBx0s7
  go_wp2_with (first | (refine wpList_load_mid rfl _ _ rfl (W.heap.size) 0 rfl _ _ (HBa0 _ mC) Try.underlying75 rfl (by kernel_rfl) ?_) | (refine wpList_load_mid rfl _ _ rfl (w4.heap.size) 0 rfl _ _ (HBx0 _ mC) Try.underlying80 rfl (by kernel_rfl) ?_))
  refine (laws_markRoad_ bx0 _ x _ _ (Ty.own_more X0 mC) nx0 (by omega) (by have := HC0.out; omega) Hs0.out).mono ?_
  rintro e w9 ⟨rfl, T9, M9⟩
  have go9 := Ty.own_turns (Ty.own_more G mC) T9 (fun k hk hk' => by have h1 := lg_x0 k hk; have h2 := tRoad.own_lt X0 k hk'; omega)
  have HBa0z' : W.heap.size < w9.heap.size := Nat.lt_of_lt_of_le (Nat.lt_of_lt_of_le (show W.heap.size < ((W.alloc (.cells #[.int .i64 x.1.1.1, .int .i64 x.1.1.2, .int .i64 x.1.2.1.1, .int .i64 x.1.2.1.2, .slice s0a4 s0n4 s0c4, .slice s0a5 s0n5 s0c5, .slice s0a6 s0n6 s0c6, .slice s0a7 s0n7 s0c7, .slice s0a8 s0n8 s0c8, .slice s0a9 s0n9 s0c9] 75))).heap.size from by simp) (More.size (show More ((W.alloc (.cells #[.int .i64 x.1.1.1, .int .i64 x.1.1.2, .int .i64 x.1.2.1.1, .int .i64 x.1.2.1.2, .slice s0a4 s0n4 s0c4, .slice s0a5 s0n5 s0c5, .slice s0a6 s0n6 s0c6, .slice s0a7 s0n7 s0c7, .slice s0a8 s0n8 s0c8, .slice s0a9 s0n9 s0c9] 75))) _ from mC))) T9.size
  have HBa0k : w9.rangeAt (W.heap.size) 0 [.int .i64 x.1.1.1, .int .i64 x.1.1.2, .int .i64 x.1.2.1.1, .int .i64 x.1.2.1.2, .slice s0a4 s0n4 s0c4, .slice s0a5 s0n5 s0c5, .slice s0a6 s0n6 s0c6, .slice s0a7 s0n7 s0c7, .slice s0a8 s0n8 s0c8, .slice s0a9 s0n9 s0c9] := range_turn T9 (Nat.lt_of_lt_of_le (show W.heap.size < ((W.alloc (.cells #[.int .i64 x.1.1.1, .int .i64 x.1.1.2, .int .i64 x.1.2.1.1, .int .i64 x.1.2.1.2, .slice s0a4 s0n4 s0c4, .slice s0a5 s0n5 s0c5, .slice s0a6 s0n6 s0c6, .slice s0a7 s0n7 s0c7, .slice s0a8 s0n8 s0c8, .slice s0a9 s0n9 s0c9] 75))).heap.size from by simp) (More.size (show More ((W.alloc (.cells #[.int .i64 x.1.1.1, .int .i64 x.1.1.2, .int .i64 x.1.2.1.1, .int .i64 x.1.2.1.2, .slice s0a4 s0n4 s0c4, .slice s0a5 s0n5 s0c5, .slice s0a6 s0n6 s0c6, .slice s0a7 s0n7 s0c7, .slice s0a8 s0n8 s0c8, .slice s0a9 s0n9 s0c9] 75))) _ from mC))) (fun h => by have h1 := HBa0ltx0 _ h; omega) (HBa0 _ mC)
  have HBx0z' : w4.heap.size < w9.heap.size := Nat.lt_of_lt_of_le (Nat.lt_of_lt_of_le (show w4.heap.size < ((w4.alloc (.cells #[.int .i64 x.1.1.1, .int .i64 x.1.1.2, .int .i64 x.1.2.1.1, .int .i64 x.1.2.1.2, .slice x0za4 x0zn4 x0zc4, .slice x0za5 x0zn5 x0zc5, .slice x0za6 x0zn6 x0zc6, .slice x0za7 x0zn7 x0zc7, .slice x0za8 x0zn8 x0zc8, .slice x0za9 x0zn9 x0zc9] 80))).heap.size from by simp) (More.size (show More ((w4.alloc (.cells #[.int .i64 x.1.1.1, .int .i64 x.1.1.2, .int .i64 x.1.2.1.1, .int .i64 x.1.2.1.2, .slice x0za4 x0zn4 x0zc4, .slice x0za5 x0zn5 x0zc5, .slice x0za6 x0zn6 x0zc6, .slice x0za7 x0zn7 x0zc7, .slice x0za8 x0zn8 x0zc8, .slice x0za9 x0zn9 x0zc9] 80))) _ from mC))) T9.size
  have HBx0k : w9.rangeAt (w4.heap.size) 0 [.int .i64 x.1.1.1, .int .i64 x.1.1.2, .int .i64 x.1.2.1.1, .int .i64 x.1.2.1.2, .slice x0za4 x0zn4 x0zc4, .slice x0za5 x0zn5 x0zc5, .slice x0za6 x0zn6 x0zc6, .slice x0za7 x0zn7 x0zc7, .slice x0za8 x0zn8 x0zc8, .slice x0za9 x0zn9 x0zc9] := range_turn T9 (Nat.lt_of_lt_of_le (show w4.heap.size < ((w4.alloc (.cells #[.int .i64 x.1.1.1, .int .i64 x.1.1.2, .int .i64 x.1.2.1.1, .int .i64 x.1.2.1.2, .slice x0za4 x0zn4 x0zc4, .slice x0za5 x0zn5 x0zc5, .slice x0za6 x0zn6 x0zc6, .slice x0za7 x0zn7 x0zc7, .slice x0za8 x0zn8 x0zc8, .slice x0za9 x0zn9 x0zc9] 80))).heap.size from by simp) (More.size (show More ((w4.alloc (.cells #[.int .i64 x.1.1.1, .int .i64 x.1.1.2, .int .i64 x.1.2.1.1, .int .i64 x.1.2.1.2, .slice x0za4 x0zn4 x0zc4, .slice x0za5 x0zn5 x0zc5, .slice x0za6 x0zn6 x0zc6, .slice x0za7 x0zn7 x0zc7, .slice x0za8 x0zn8 x0zc8, .slice x0za9 x0zn9 x0zc9] 80))) _ from mC))) (fun h => by have h1 := HBx0gex0; have h2 := tRoad.own_lt X0 _ h; omega) (HBx0 _ mC)
  have b9 := More.turn (b4.trans mC) T9 lx0
  try clear HBa0_8
  try clear HBa0s8
  clear HBa0
  have HBa0 : ∀ w', More w9 w' → w'.rangeAt (W.heap.size) 0 [.int .i64 x.1.1.1, .int .i64 x.1.1.2, .int .i64 x.1.2.1.1, .int .i64 x.1.2.1.2, .slice s0a4 s0n4 s0c4, .slice s0a5 s0n5 s0c5, .slice s0a6 s0n6 s0c6, .slice s0a7 s0n7 s0c7, .slice s0a8 s0n8 s0c8, .slice s0a9 s0n9 s0c9] := fun w' h => range_keep h HBa0z' HBa0k
  try clear HBa0z
  have HBa0z := HBa0z'; clear HBa0z' HBa0k
  have HBa0_9 := HBa0 w9 (More.refl _)
  have HBa0s9 := HBa0z
  try clear HBx0_8
  try clear HBx0s8
  clear HBx0
  have HBx0 : ∀ w', More w9 w' → w'.rangeAt (w4.heap.size) 0 [.int .i64 x.1.1.1, .int .i64 x.1.1.2, .int .i64 x.1.2.1.1, .int .i64 x.1.2.1.2, .slice x0za4 x0zn4 x0zc4, .slice x0za5 x0zn5 x0zc5, .slice x0za6 x0zn6 x0zc6, .slice x0za7 x0zn7 x0zc7, .slice x0za8 x0zn8 x0zc8, .slice x0za9 x0zn9 x0zc9] := fun w' h => range_keep h HBx0z' HBx0k
  try clear HBx0z
  have HBx0z := HBx0z'; clear HBx0z' HBx0k
  have HBx0_9 := HBx0 w9 (More.refl _)
  have HBx0s9 := HBx0z
  have k9 : ¬ (1 + ((cRoad x : Nat) : Int) < 0) := by omega
  go_wp2_with (first | (refine wpList_load_mid rfl _ _ rfl (W.heap.size) 0 rfl _ _ (HBa0 _ mC) Try.underlying75 rfl (by kernel_rfl) ?_) | (refine wpList_load_mid rfl _ _ rfl (w4.heap.size) 0 rfl _ _ (HBx0 _ mC) Try.underlying80 rfl (by kernel_rfl) ?_))
  refine (laws_eqIntS _ _ r _ (Ty.at_more (Ty.rd_at (tInts.own_rd go9)) mC) (Ty.at_more (Ty.fresh_at Fy) mC) (by have := HrL.out; unfold wIntS at this; omega)).mono ?_
  rintro e w10 ⟨rfl, b10⟩
  have HBa0_10 := HBa0 w10 mC
  have HBa0s10 : W.heap.size < w10.heap.size := by have := More.size (show More w9 w10 from mC); have := HBa0z; omega
  try clear HBa0_9
  try clear HBa0s9
  have HBx0_10 := HBx0 w10 mC
  have HBx0s10 : w4.heap.size < w10.heap.size := by have := More.size (show More w9 w10 from mC); have := HBx0z; omega
  try clear HBx0_9
  try clear HBx0s9
  go_wp2_with (first | (refine wpList_load_mid rfl _ _ rfl (W.heap.size) 0 rfl _ _ (HBa0 _ mC) Try.underlying75 rfl (by kernel_rfl) ?_) | (refine wpList_load_mid rfl _ _ rfl (w4.heap.size) 0 rfl _ _ (HBx0 _ mC) Try.underlying80 rfl (by kernel_rfl) ?_))
  refine (laws_markIntS_ bg _ r _ _ (Ty.own_more go9 mC) ng (by omega) (by have := HrC.out; omega) HrL.out).mono ?_
  rintro e w11 ⟨rfl, T11, M11⟩
  have HBa0z' : W.heap.size < w11.heap.size := Nat.lt_of_lt_of_le (Nat.lt_of_lt_of_le (show W.heap.size < (w9).heap.size from by exact HBa0z) (More.size (show More (w9) _ from mC))) T11.size
  have HBa0k : w11.rangeAt (W.heap.size) 0 [.int .i64 x.1.1.1, .int .i64 x.1.1.2, .int .i64 x.1.2.1.1, .int .i64 x.1.2.1.2, .slice s0a4 s0n4 s0c4, .slice s0a5 s0n5 s0c5, .slice s0a6 s0n6 s0c6, .slice s0a7 s0n7 s0c7, .slice s0a8 s0n8 s0c8, .slice s0a9 s0n9 s0c9] := range_turn T11 (Nat.lt_of_lt_of_le (show W.heap.size < (w9).heap.size from by exact HBa0z) (More.size (show More (w9) _ from mC))) (fun h => by have h1 := HBa0ltg _ h; omega) (HBa0 _ mC)
  have HBx0z' : w4.heap.size < w11.heap.size := Nat.lt_of_lt_of_le (Nat.lt_of_lt_of_le (show w4.heap.size < (w9).heap.size from by exact HBx0z) (More.size (show More (w9) _ from mC))) T11.size
  have HBx0k : w11.rangeAt (w4.heap.size) 0 [.int .i64 x.1.1.1, .int .i64 x.1.1.2, .int .i64 x.1.2.1.1, .int .i64 x.1.2.1.2, .slice x0za4 x0zn4 x0zc4, .slice x0za5 x0zn5 x0zc5, .slice x0za6 x0zn6 x0zc6, .slice x0za7 x0zn7 x0zc7, .slice x0za8 x0zn8 x0zc8, .slice x0za9 x0zn9 x0zc9] := range_turn T11 (Nat.lt_of_lt_of_le (show w4.heap.size < (w9).heap.size from by exact HBx0z) (More.size (show More (w9) _ from mC))) (fun h => by have h1 := HBx0ltg _ h; omega) (HBx0 _ mC)
  have b11 := More.turn (b9.trans mC) T11 (fun k hk => Nat.le_trans (More.size (b4.trans mC)) (lg k hk))
  try clear HBa0_10
  try clear HBa0s10
  clear HBa0
  have HBa0 : ∀ w', More w11 w' → w'.rangeAt (W.heap.size) 0 [.int .i64 x.1.1.1, .int .i64 x.1.1.2, .int .i64 x.1.2.1.1, .int .i64 x.1.2.1.2, .slice s0a4 s0n4 s0c4, .slice s0a5 s0n5 s0c5, .slice s0a6 s0n6 s0c6, .slice s0a7 s0n7 s0c7, .slice s0a8 s0n8 s0c8, .slice s0a9 s0n9 s0c9] := fun w' h => range_keep h HBa0z' HBa0k
  try clear HBa0z
  have HBa0z := HBa0z'; clear HBa0z' HBa0k
  have HBa0_11 := HBa0 w11 (More.refl _)
  have HBa0s11 := HBa0z
  try clear HBx0_10
  try clear HBx0s10
  clear HBx0
  have HBx0 : ∀ w', More w11 w' → w'.rangeAt (w4.heap.size) 0 [.int .i64 x.1.1.1, .int .i64 x.1.1.2, .int .i64 x.1.2.1.1, .int .i64 x.1.2.1.2, .slice x0za4 x0zn4 x0zc4, .slice x0za5 x0zn5 x0zc5, .slice x0za6 x0zn6 x0zc6, .slice x0za7 x0zn7 x0zc7, .slice x0za8 x0zn8 x0zc8, .slice x0za9 x0zn9 x0zc9] := fun w' h => range_keep h HBx0z' HBx0k
  try clear HBx0z
  have HBx0z := HBx0z'; clear HBx0z' HBx0k
  have HBx0_11 := HBx0 w11 (More.refl _)
  have HBx0s11 := HBx0z
  go_wp2_with (first | (refine wpList_load_mid rfl _ _ rfl (W.heap.size) 0 rfl _ _ (HBa0 _ mC) Try.underlying75 rfl (by kernel_rfl) ?_) | (refine wpList_load_mid rfl _ _ rfl (w4.heap.size) 0 rfl _ _ (HBx0 _ mC) Try.underlying80 rfl (by kernel_rfl) ?_))
  refine (laws_heldIntS_ _ r _ _ (Ty.at_more (Ty.rd_at (tInts.own_rd M11)) mC) (by decide) (by have := HrC.out; omega) HrL.out).mono ?_
  rintro e w12 ⟨rfl, b12⟩
  have HBa0_12 := HBa0 w12 mC
  have HBa0s12 : W.heap.size < w12.heap.size := by have := More.size (show More w11 w12 from mC); have := HBa0z; omega
  try clear HBa0_11
  try clear HBa0s11
  have HBx0_12 := HBx0 w12 mC
  have HBx0s12 : w4.heap.size < w12.heap.size := by have := More.size (show More w11 w12 from mC); have := HBx0z; omega
  try clear HBx0_11
  try clear HBx0s11
  have q12 : ¬ ((1 : Int) + ((cIntS r : Nat) : Int) < 0) := by omega
  go_wp2_with (first | (refine wpList_load_mid rfl _ _ rfl (W.heap.size) 0 rfl _ _ (HBa0 _ mC) Try.underlying75 rfl (by kernel_rfl) ?_) | (refine wpList_load_mid rfl _ _ rfl (w4.heap.size) 0 rfl _ _ (HBx0 _ mC) Try.underlying80 rfl (by kernel_rfl) ?_))
  refine (laws_toRoad _ x _ (Ty.at_more HV0.out mC) Hs0.out).mono ?_
  rintro e w13 ⟨z0, rfl, b13, Fz0⟩
  have HBa0_13 := HBa0 w13 mC
  have HBa0s13 : W.heap.size < w13.heap.size := by have := More.size (show More w11 w13 from mC); have := HBa0z; omega
  try clear HBa0_12
  try clear HBa0s12
  have HBx0_13 := HBx0 w13 mC
  have HBx0s13 : w4.heap.size < w13.heap.size := by have := More.size (show More w11 w13 from mC); have := HBx0z; omega
  try clear HBx0_12
  try clear HBx0s12
  obtain ⟨z0za4, z0zn4, z0zc4, z0za5, z0zn5, z0zc5, z0za6, z0zn6, z0zc6, z0za7, z0zn7, z0zc7, z0za8, z0zn8, z0zc8, z0za9, z0zn9, z0zc9, rfl⟩ := sh_Road (Ty.fresh_at Fz0)
  go_wp2_with (first | (refine wpList_load_mid rfl _ _ rfl (W.heap.size) 0 rfl _ _ (HBa0 _ mC) Try.underlying75 rfl (by kernel_rfl) ?_) | (refine wpList_load_mid rfl _ _ rfl (w4.heap.size) 0 rfl _ _ (HBx0 _ mC) Try.underlying80 rfl (by kernel_rfl) ?_))
  refine (impl_RegionsFrom _ x h _ (Ty.at_more (Ty.fresh_at Fz0) mC) Hs0.out HI1.out).mono ?_
  rintro e w14 ⟨h, rfl, b14, Fh⟩
  rw [← ER.out] at Fh
  have HBa0_14 := HBa0 w14 mC
  have HBa0s14 : W.heap.size < w14.heap.size := by have := More.size (show More w11 w14 from mC); have := HBa0z; omega
  try clear HBa0_13
  try clear HBa0s13
  have HBx0_14 := HBx0 w14 mC
  have HBx0s14 : w4.heap.size < w14.heap.size := by have := More.size (show More w11 w14 from mC); have := HBx0z; omega
  try clear HBx0_13
  try clear HBx0s13
  go_wp2_with (first | (refine wpList_load_mid rfl _ _ rfl (W.heap.size) 0 rfl _ _ (HBa0 _ mC) Try.underlying75 rfl (by kernel_rfl) ?_) | (refine wpList_load_mid rfl _ _ rfl (w4.heap.size) 0 rfl _ _ (HBx0 _ mC) Try.underlying80 rfl (by kernel_rfl) ?_))
  refine (laws_eqIntS _ _ r _ (Ty.at_more (Ty.fresh_at Fh) mC) (Ty.at_more (Ty.fresh_at Fy) mC) (by have := HrL.out; unfold wIntS at this; omega)).mono ?_
  rintro e w15 ⟨rfl, b15⟩
  have HBa0_15 := HBa0 w15 mC
  have HBa0s15 : W.heap.size < w15.heap.size := by have := More.size (show More w11 w15 from mC); have := HBa0z; omega
  try clear HBa0_14
  try clear HBa0s14
  have HBx0_15 := HBx0 w15 mC
  have HBx0s15 : w4.heap.size < w15.heap.size := by have := More.size (show More w11 w15 from mC); have := HBx0z; omega
  try clear HBx0_14
  try clear HBx0s14
  go_wp2_with (first | (refine wpList_load_mid rfl _ _ rfl (W.heap.size) 0 rfl _ _ (HBa0 _ mC) Try.underlying75 rfl (by kernel_rfl) ?_) | (refine wpList_load_mid rfl _ _ rfl (w4.heap.size) 0 rfl _ _ (HBx0 _ mC) Try.underlying80 rfl (by kernel_rfl) ?_))
  refine (laws_heldIntS_ _ r _ _ (Ty.at_more (Ty.rd_at (tInts.own_rd M11)) mC) (by decide) (by have := HrC.out; omega) HrL.out).mono ?_
  rintro e w16 ⟨rfl, b16⟩
  have HBa0_16 := HBa0 w16 mC
  have HBa0s16 : W.heap.size < w16.heap.size := by have := More.size (show More w11 w16 from mC); have := HBa0z; omega
  try clear HBa0_15
  try clear HBa0s15
  have HBx0_16 := HBx0 w16 mC
  have HBx0s16 : w4.heap.size < w16.heap.size := by have := More.size (show More w11 w16 from mC); have := HBx0z; omega
  try clear HBx0_15
  try clear HBx0s15
  have q16 : ¬ ((1 : Int) + ((cIntS r : Nat) : Int) < 0) := by omega
  go_wp2_with (first | (refine wpList_load_mid rfl _ _ rfl (W.heap.size) 0 rfl _ _ (HBa0 _ mC) Try.underlying75 rfl (by kernel_rfl) ?_) | (refine wpList_load_mid rfl _ _ rfl (w4.heap.size) 0 rfl _ _ (HBx0 _ mC) Try.underlying80 rfl (by kernel_rfl) ?_))
  go_ret
  exact ⟨rfl, mC⟩
end Go.Proofs.Ytbbibfeblaocfaa
