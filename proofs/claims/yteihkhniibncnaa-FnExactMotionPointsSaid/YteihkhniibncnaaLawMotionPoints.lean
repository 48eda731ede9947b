/- FnExactMotionPoints returns true, for every input. -/
import Derived.Test.YteihkhniibncnaaMot
import Derived.Test.YteihkhniibncnaaSzPlacement
import Derived.Test.YteihkhniibncnaaSzStepS
import Derived.Test.YteihkhniibncnaaToPlacement
import Derived.Test.YteihkhniibncnaaToStepS
import Derived.Test.YteihkhniibncnaaEqPlacement
import Derived.Test.YteihkhniibncnaaEqStepS
import Derived.Test.YteihkhniibncnaaMkPlacement
import Derived.Test.YteihkhniibncnaaMkStepS
import Derived.Test.YteihkhniibncnaaEqPointSB
import Derived.Test.YteihkhniibncnaaMkPointSB
import Derived.Deep.RegionHeld3
namespace Go.Proofs.Yteihkhniibncnaa
open Go.RowKit
set_option maxRecDepth 8000 in
set_option maxHeartbeats 12800000 in
theorem law_MotionPoints {W : World} (ca0 : Array Value) (p : QPlacement) (hv0 : tPlacement.at W ca0.toList p) (v1 : Value) (l : List (QStep)) (hv1 : tStepS.at W [v1] l) :
    Calls Try.prog 4 #[.agg ca0, v1] W fun e w' => e = .returned (.bool true) ∧ More W w' := by
  obtain ⟨s0a2, s0n2, s0c2, s0a3, s0n3, s0c3, s0a5, s0n5, s0c5, s0a6, s0n6, s0c6, es0⟩ := sh_Placement hv0
  rw [es0] at hv0
  obtain rfl := arr_of es0
  clear es0
  have HV0 := Lib.hid hv0; clear hv0
  have HV1 := Lib.hid hv1; clear hv1
  by_cases hn0 : ((wPlacement p : Nat) : Int) ≤ 1048576
  rotate_left
  · have Hbad := Lib.hid hn0; clear hn0
    have HBa0 : ∀ w', More (W.alloc (.cells #[.int .i64 p.1, .bool p.2.1.1.1, .slice s0a2 s0n2 s0c2, .slice s0a3 s0n3 s0c3, .bool p.2.2.1.1, .slice s0a5 s0n5 s0c5, .slice s0a6 s0n6 s0c6] 48)) w' → w'.cell? ⟨W.heap.size, 0, none⟩ = some (.int .i64 p.1) ∧ w'.cell? ⟨W.heap.size, 1, none⟩ = some (.bool p.2.1.1.1) ∧ w'.cell? ⟨W.heap.size, 2, none⟩ = some (.slice s0a2 s0n2 s0c2) ∧ w'.cell? ⟨W.heap.size, 3, none⟩ = some (.slice s0a3 s0n3 s0c3) ∧ w'.cell? ⟨W.heap.size, 4, none⟩ = some (.bool p.2.2.1.1) ∧ w'.cell? ⟨W.heap.size, 5, none⟩ = some (.slice s0a5 s0n5 s0c5) ∧ w'.cell? ⟨W.heap.size, 6, none⟩ = some (.slice s0a6 s0n6 s0c6) := fun w' h => ⟨box_new (by simp) h 0, box_new (by simp) h 1, box_new (by simp) h 2, box_new (by simp) h 3, box_new (by simp) h 4, box_new (by simp) h 5, box_new (by simp) h 6⟩
    go_enter Try.func4, Try.ntmps4
    go_wp2_with fail
    refine (laws_szPlacement _ p _ _ (Ty.at_more HV0.out mC) (by decide) (by decide)).mono ?_
    rintro e w1 ⟨rfl, b1⟩
    have HBa0_1 := HBa0 w1 mC
    have HBa0s1 : W.heap.size < w1.heap.size := by have := More.size (show More (W.alloc (.cells #[.int .i64 p.1, .bool p.2.1.1.1, .slice s0a2 s0n2 s0c2, .slice s0a3 s0n3 s0c3, .bool p.2.2.1.1, .slice s0a5 s0n5 s0c5, .slice s0a6 s0n6 s0c6] 48)) w1 from mC); simp at this; omega
    rw [szI_neg (by have := Hbad.out; omega)]
    go_wp2_with fail
    go_ret
    exact ⟨rfl, mC⟩
  by_cases hn1 : ((wStepS l : Nat) : Int) ≤ 1048576 - (wPlacement p : Nat)
  rotate_left
  · have Hbad := Lib.hid hn1; clear hn1
    have Hn0 := Lib.hid hn0; clear hn0
    have HBa0 : ∀ w', More (W.alloc (.cells #[.int .i64 p.1, .bool p.2.1.1.1, .slice s0a2 s0n2 s0c2, .slice s0a3 s0n3 s0c3, .bool p.2.2.1.1, .slice s0a5 s0n5 s0c5, .slice s0a6 s0n6 s0c6] 48)) w' → w'.cell? ⟨W.heap.size, 0, none⟩ = some (.int .i64 p.1) ∧ w'.cell? ⟨W.heap.size, 1, none⟩ = some (.bool p.2.1.1.1) ∧ w'.cell? ⟨W.heap.size, 2, none⟩ = some (.slice s0a2 s0n2 s0c2) ∧ w'.cell? ⟨W.heap.size, 3, none⟩ = some (.slice s0a3 s0n3 s0c3) ∧ w'.cell? ⟨W.heap.size, 4, none⟩ = some (.bool p.2.2.1.1) ∧ w'.cell? ⟨W.heap.size, 5, none⟩ = some (.slice s0a5 s0n5 s0c5) ∧ w'.cell? ⟨W.heap.size, 6, none⟩ = some (.slice s0a6 s0n6 s0c6) := fun w' h => ⟨box_new (by simp) h 0, box_new (by simp) h 1, box_new (by simp) h 2, box_new (by simp) h 3, box_new (by simp) h 4, box_new (by simp) h 5, box_new (by simp) h 6⟩
    go_enter Try.func4, Try.ntmps4
    go_wp2_with fail
    refine (laws_szPlacement _ p _ _ (Ty.at_more HV0.out mC) (by decide) (by decide)).mono ?_
    rintro e w1 ⟨rfl, b1⟩
    have HBa0_1 := HBa0 w1 mC
    have HBa0s1 : W.heap.size < w1.heap.size := by have := More.size (show More (W.alloc (.cells #[.int .i64 p.1, .bool p.2.1.1.1, .slice s0a2 s0n2 s0c2, .slice s0a3 s0n3 s0c3, .bool p.2.2.1.1, .slice s0a5 s0n5 s0c5, .slice s0a6 s0n6 s0c6] 48)) w1 from mC); simp at this; omega
    rw [szI_pos (by have := Hn0.out; omega)]
    have z0 : 0 ≤ (1048576 : Int) - (wPlacement p : Nat) := by have := Hn0.out; omega
    go_wp2_with fail
    refine (laws_szStepS _ l _ _ (Ty.at_more HV1.out mC) (by have := Hn0.out; omega) (by omega)).mono ?_
    rintro e w2 ⟨rfl, b2⟩
    have HBa0_2 := HBa0 w2 mC
    have HBa0s2 : W.heap.size < w2.heap.size := by have := More.size (show More (W.alloc (.cells #[.int .i64 p.1, .bool p.2.1.1.1, .slice s0a2 s0n2 s0c2, .slice s0a3 s0n3 s0c3, .bool p.2.2.1.1, .slice s0a5 s0n5 s0c5, .slice s0a6 s0n6 s0c6] 48)) w2 from mC); simp at this; omega
    try clear HBa0_1
    try clear HBa0s1
    rw [szI_neg (by have := Hbad.out; omega)]
    go_wp2_with fail
    go_ret
    exact ⟨rfl, mC⟩
  have Hn0 := Lib.hid hn0
  have Hn1 := Lib.hid hn1
  have Hs0 : Hid (wPlacement p ≤ 1048576) := Lib.hid (by omega)
  have Hs1 : Hid (wStepS l ≤ 1048576) := Lib.hid (by omega)
  clear hn0 hn1
  obtain ⟨r, er⟩ : ∃ r, r = motL p l := ⟨_, rfl⟩
  have ER := Lib.hid er
  have HrL : Hid (wPointS r ≤ 67108864 ∧ ∀ x ∈ r, wPoint x ≤ 1048576) := Lib.hid (by rw [er]; exact motL_bd Hs0.out Hs1.out)
  clear er
  have HrC : Hid (cPointS r ≤ 536870912) := Lib.hid (by have h := cPointS_le r; have h2 := HrL.out.1; omega)
  have HC0 : Hid (cPlacement p ≤ 8388608) := Lib.hid (by have h := cPlacement_le p; have h2 := Hs0.out; omega)
  have HC1 : Hid (cStepS l ≤ 8388608) := Lib.hid (by have h := cStepS_le l; have h2 := Hs1.out; omega)
  have HBa0 : ∀ w', More (W.alloc (.cells #[.int .i64 p.1, .bool p.2.1.1.1, .slice s0a2 s0n2 s0c2, .slice s0a3 s0n3 s0c3, .bool p.2.2.1.1, .slice s0a5 s0n5 s0c5, .slice s0a6 s0n6 s0c6] 48)) w' → w'.cell? ⟨W.heap.size, 0, none⟩ = some (.int .i64 p.1) ∧ w'.cell? ⟨W.heap.size, 1, none⟩ = some (.bool p.2.1.1.1) ∧ w'.cell? ⟨W.heap.size, 2, none⟩ = some (.slice s0a2 s0n2 s0c2) ∧ w'.cell? ⟨W.heap.size, 3, none⟩ = some (.slice s0a3 s0n3 s0c3) ∧ w'.cell? ⟨W.heap.size, 4, none⟩ = some (.bool p.2.2.1.1) ∧ w'.cell? ⟨W.heap.size, 5, none⟩ = some (.slice s0a5 s0n5 s0c5) ∧ w'.cell? ⟨W.heap.size, 6, none⟩ = some (.slice s0a6 s0n6 s0c6) := fun w' h => ⟨box_new (by simp) h 0, box_new (by simp) h 1, box_new (by simp) h 2, box_new (by simp) h 3, box_new (by simp) h 4, box_new (by simp) h 5, box_new (by simp) h 6⟩
  go_enter Try.func4, Try.ntmps4
  go_wp2_with fail
  refine (laws_szPlacement _ p _ _ (Ty.at_more HV0.out mC) (by decide) (by decide)).mono ?_
  rintro e w1 ⟨rfl, b1⟩
  have HBa0_1 := HBa0 w1 mC
  have HBa0s1 : W.heap.size < w1.heap.size := by have := More.size (show More (W.alloc (.cells #[.int .i64 p.1, .bool p.2.1.1.1, .slice s0a2 s0n2 s0c2, .slice s0a3 s0n3 s0c3, .bool p.2.2.1.1, .slice s0a5 s0n5 s0c5, .slice s0a6 s0n6 s0c6] 48)) w1 from mC); simp at this; omega
  rw [szI_pos (by have := Hn0.out; omega)]
  have z0 : 0 ≤ (1048576 : Int) - (wPlacement p : Nat) := by have := Hn0.out; omega
  go_wp2_with fail
  refine (laws_szStepS _ l _ _ (Ty.at_more HV1.out mC) (by have := Hn0.out; omega) (by omega)).mono ?_
  rintro e w2 ⟨rfl, b2⟩
  have HBa0_2 := HBa0 w2 mC
  have HBa0s2 : W.heap.size < w2.heap.size := by have := More.size (show More (W.alloc (.cells #[.int .i64 p.1, .bool p.2.1.1.1, .slice s0a2 s0n2 s0c2, .slice s0a3 s0n3 s0c3, .bool p.2.2.1.1, .slice s0a5 s0n5 s0c5, .slice s0a6 s0n6 s0c6] 48)) w2 from mC); simp at this; omega
  try clear HBa0_1
  try clear HBa0s1
  rw [szI_pos (by have := Hn1.out; omega)]
  have z1 : 0 ≤ (1048576 : Int) - (wPlacement p : Nat) - (wStepS l : Nat) := by have := Hn1.out; omega
  go_wp2_with fail
  refine (laws_toPlacement _ p _ (Ty.at_more HV0.out mC) Hs0.out).mono ?_
  rintro e w3 ⟨c0, rfl, b3, Fc0⟩
  have HBa0_3 := HBa0 w3 mC
  have HBa0s3 : W.heap.size < w3.heap.size := by have := More.size (show More (W.alloc (.cells #[.int .i64 p.1, .bool p.2.1.1.1, .slice s0a2 s0n2 s0c2, .slice s0a3 s0n3 s0c3, .bool p.2.2.1.1, .slice s0a5 s0n5 s0c5, .slice s0a6 s0n6 s0c6] 48)) w3 from mC); simp at this; omega
  try clear HBa0_2
  try clear HBa0s2
  obtain ⟨c0za2, c0zn2, c0zc2, c0za3, c0zn3, c0zc3, c0za5, c0zn5, c0zc5, c0za6, c0zn6, c0zc6, rfl⟩ := sh_Placement (Ty.fresh_at Fc0)
  go_wp2_with fail
  refine (laws_toStepS _ l _ (Ty.at_more HV1.out mC) Hs1.out).mono ?_
  rintro e w4 ⟨c1, rfl, b4, Fc1⟩
  have HBa0_4 := HBa0 w4 mC
  have HBa0s4 : W.heap.size < w4.heap.size := by have := More.size (show More (W.alloc (.cells #[.int .i64 p.1, .bool p.2.1.1.1, .slice s0a2 s0n2 s0c2, .slice s0a3 s0n3 s0c3, .bool p.2.2.1.1, .slice s0a5 s0n5 s0c5, .slice s0a6 s0n6 s0c6] 48)) w4 from mC); simp at this; omega
  try clear HBa0_3
  try clear HBa0s3
  go_wp2_with fail
  refine (spec_MotionPoints _ p _ l _ (Ty.at_more (Ty.fresh_at Fc0) mC) Hs0.out (Ty.at_more (Ty.fresh_at Fc1) mC) Hs1.out).mono ?_
  rintro e w5 ⟨y, rfl, b5, Fy⟩
  rw [← ER.out] at Fy
  have HBa0_5 := HBa0 w5 mC
  have HBa0s5 : W.heap.size < w5.heap.size := by have := More.size (show More (W.alloc (.cells #[.int .i64 p.1, .bool p.2.1.1.1, .slice s0a2 s0n2 s0c2, .slice s0a3 s0n3 s0c3, .bool p.2.2.1.1, .slice s0a5 s0n5 s0c5, .slice s0a6 s0n6 s0c6] 48)) w5 from mC); simp at this; omega
  try clear HBa0_4
  try clear HBa0s4
  go_wp2_with fail
  refine (laws_toPlacement _ p _ (Ty.at_more HV0.out mC) Hs0.out).mono ?_
  rintro e w6 ⟨x0, rfl, b6, bx0, X0, nx0, lx0⟩
  have HBa0ltx0 : ∀ k ∈ bx0, W.heap.size < k := fun k hk => Nat.lt_of_lt_of_le (show W.heap.size < ((W.alloc (.cells #[.int .i64 p.1, .bool p.2.1.1.1, .slice s0a2 s0n2 s0c2, .slice s0a3 s0n3 s0c3, .bool p.2.2.1.1, .slice s0a5 s0n5 s0c5, .slice s0a6 s0n6 s0c6] 48))).heap.size from by (simp; try omega)) (Nat.le_trans (More.size (show More ((W.alloc (.cells #[.int .i64 p.1, .bool p.2.1.1.1, .slice s0a2 s0n2 s0c2, .slice s0a3 s0n3 s0c3, .bool p.2.2.1.1, .slice s0a5 s0n5 s0c5, .slice s0a6 s0n6 s0c6] 48))) _ from mC)) (lx0 k hk))
  obtain ⟨x0za2, x0zn2, x0zc2, x0za3, x0zn3, x0zc3, x0za5, x0zn5, x0zc5, x0za6, x0zn6, x0zc6, rfl⟩ := sh_Placement (Ty.rd_at (tPlacement.own_rd X0))
  have HBa0_6 := HBa0 w6 mC
  have HBa0s6 : W.heap.size < w6.heap.size := by have := More.size (show More (W.alloc (.cells #[.int .i64 p.1, .bool p.2.1.1.1, .slice s0a2 s0n2 s0c2, .slice s0a3 s0n3 s0c3, .bool p.2.2.1.1, .slice s0a5 s0n5 s0c5, .slice s0a6 s0n6 s0c6] 48)) w6 from mC); simp at this; omega
  try clear HBa0_5
  try clear HBa0s5
  have HBx0 : ∀ w', More (w6.alloc (.cells #[.int .i64 p.1, .bool p.2.1.1.1, .slice x0za2 x0zn2 x0zc2, .slice x0za3 x0zn3 x0zc3, .bool p.2.2.1.1, .slice x0za5 x0zn5 x0zc5, .slice x0za6 x0zn6 x0zc6] 57)) w' → w'.cell? ⟨w6.heap.size, 0, none⟩ = some (.int .i64 p.1) ∧ w'.cell? ⟨w6.heap.size, 1, none⟩ = some (.bool p.2.1.1.1) ∧ w'.cell? ⟨w6.heap.size, 2, none⟩ = some (.slice x0za2 x0zn2 x0zc2) ∧ w'.cell? ⟨w6.heap.size, 3, none⟩ = some (.slice x0za3 x0zn3 x0zc3) ∧ w'.cell? ⟨w6.heap.size, 4, none⟩ = some (.bool p.2.2.1.1) ∧ w'.cell? ⟨w6.heap.size, 5, none⟩ = some (.slice x0za5 x0zn5 x0zc5) ∧ w'.cell? ⟨w6.heap.size, 6, none⟩ = some (.slice x0za6 x0zn6 x0zc6) := fun w' h => ⟨box_new (by simp) h 0, box_new (by simp) h 1, box_new (by simp) h 2, box_new (by simp) h 3, box_new (by simp) h 4, box_new (by simp) h 5, box_new (by simp) h 6⟩
  have HBx0gex0 : w6.heap.size ≤ w6.heap.size := by have := More.size (show More w6 w6 from mC); omega
  go_wp2_with fail
  refine (laws_toStepS _ l _ (Ty.at_more HV1.out mC) Hs1.out).mono ?_
  rintro e w7 ⟨x1, rfl, b7, bx1, X1, nx1, lx1⟩
  have HBa0ltx1 : ∀ k ∈ bx1, W.heap.size < k := fun k hk => Nat.lt_of_lt_of_le (show W.heap.size < ((W.alloc (.cells #[.int .i64 p.1, .bool p.2.1.1.1, .slice s0a2 s0n2 s0c2, .slice s0a3 s0n3 s0c3, .bool p.2.2.1.1, .slice s0a5 s0n5 s0c5, .slice s0a6 s0n6 s0c6] 48))).heap.size from by (simp; try omega)) (Nat.le_trans (More.size (show More ((W.alloc (.cells #[.int .i64 p.1, .bool p.2.1.1.1, .slice s0a2 s0n2 s0c2, .slice s0a3 s0n3 s0c3, .bool p.2.2.1.1, .slice s0a5 s0n5 s0c5, .slice s0a6 s0n6 s0c6] 48))) _ from mC)) (lx1 k hk))
  have HBx0ltx1 : ∀ k ∈ bx1, w6.heap.size < k := fun k hk => Nat.lt_of_lt_of_le (show w6.heap.size < ((w6.alloc (.cells #[.int .i64 p.1, .bool p.2.1.1.1, .slice x0za2 x0zn2 x0zc2, .slice x0za3 x0zn3 x0zc3, .bool p.2.2.1.1, .slice x0za5 x0zn5 x0zc5, .slice x0za6 x0zn6 x0zc6] 57))).heap.size from by (simp; try omega)) (Nat.le_trans (More.size (show More ((w6.alloc (.cells #[.int .i64 p.1, .bool p.2.1.1.1, .slice x0za2 x0zn2 x0zc2, .slice x0za3 x0zn3 x0zc3, .bool p.2.2.1.1, .slice x0za5 x0zn5 x0zc5, .slice x0za6 x0zn6 x0zc6] 57))) _ from mC)) (lx1 k hk))
  have lx1_x0 : ∀ k ∈ bx1, w6.heap.size ≤ k := fun k hk => Nat.le_trans (More.size (show More w6 _ from mC)) (lx1 k hk)
  have HBa0_7 := HBa0 w7 mC
  have HBa0s7 : W.heap.size < w7.heap.size := by have := More.size (show More (W.alloc (.cells #[.int .i64 p.1, .bool p.2.1.1.1, .slice s0a2 s0n2 s0c2, .slice s0a3 s0n3 s0c3, .bool p.2.2.1.1, .slice s0a5 s0n5 s0c5, .slice s0a6 s0n6 s0c6] 48)) w7 from mC); simp at this; omega
  try clear HBa0_6
  try clear HBa0s6
  have HBx0_7 := HBx0 w7 mC
  have HBx0s7 : w6.heap.size < w7.heap.size := by have := More.size (show More (w6.alloc (.cells #[.int .i64 p.1, .bool p.2.1.1.1, .slice x0za2 x0zn2 x0zc2, .slice x0za3 x0zn3 x0zc3, .bool p.2.2.1.1, .slice x0za5 x0zn5 x0zc5, .slice x0za6 x0zn6 x0zc6] 57)) w7 from mC); simp at this; omega
  try clear HBx0_6
  try clear HBx0s6
  go_wp2_with fail
  refine (impl_MotionPoints _ p _ l _ (Ty.at_more (Ty.rd_at (tPlacement.own_rd X0)) mC) Hs0.out (Ty.at_more (Ty.rd_at (tStepS.own_rd X1)) mC) Hs1.out).mono ?_
  rintro e w8 ⟨g, rfl, b8, bg, G, ng, lg⟩
  rw [← ER.out] at G
  have HBa0_8 := HBa0 w8 mC
  have HBa0s8 : W.heap.size < w8.heap.size := by have := More.size (show More (W.alloc (.cells #[.int .i64 p.1, .bool p.2.1.1.1, .slice s0a2 s0n2 s0c2, .slice s0a3 s0n3 s0c3, .bool p.2.2.1.1, .slice s0a5 s0n5 s0c5, .slice s0a6 s0n6 s0c6] 48)) w8 from mC); simp at this; omega
  try clear HBa0_7
  try clear HBa0s7
  have HBx0_8 := HBx0 w8 mC
  have HBx0s8 : w6.heap.size < w8.heap.size := by have := More.size (show More (w6.alloc (.cells #[.int .i64 p.1, .bool p.2.1.1.1, .slice x0za2 x0zn2 x0zc2, .slice x0za3 x0zn3 x0zc3, .bool p.2.2.1.1, .slice x0za5 x0zn5 x0zc5, .slice x0za6 x0zn6 x0zc6] 57)) w8 from mC); simp at this; omega
  try clear HBx0_7
  try clear HBx0s7
  have HBa0ltg : ∀ k ∈ bg, W.heap.size < k := fun k hk => Nat.lt_of_lt_of_le (show W.heap.size < ((W.alloc (.cells #[.int .i64 p.1, .bool p.2.1.1.1, .slice s0a2 s0n2 s0c2, .slice s0a3 s0n3 s0c3, .bool p.2.2.1.1, .slice s0a5 s0n5 s0c5, .slice s0a6 s0n6 s0c6] 48))).heap.size from by (simp; try omega)) (Nat.le_trans (More.size (show More ((W.alloc (.cells #[.int .i64 p.1, .bool p.2.1.1.1, .slice s0a2 s0n2 s0c2, .slice s0a3 s0n3 s0c3, .bool p.2.2.1.1, .slice s0a5 s0n5 s0c5, .slice s0a6 s0n6 s0c6] 48))) _ from mC)) (lg k hk))
  have HBx0ltg : ∀ k ∈ bg, w6.heap.size < k := fun k hk => Nat.lt_of_lt_of_le (show w6.heap.size < ((w6.alloc (.cells #[.int .i64 p.1, .bool p.2.1.1.1, .slice x0za2 x0zn2 x0zc2, .slice x0za3 x0zn3 x0zc3, .bool p.2.2.1.1, .slice x0za5 x0zn5 x0zc5, .slice x0za6 x0zn6 x0zc6] 57))).heap.size from by (simp; try omega)) (Nat.le_trans (More.size (show More ((w6.alloc (.cells #[.int .i64 p.1, .bool p.2.1.1.1, .slice x0za2 x0zn2 x0zc2, .slice x0za3 x0zn3 x0zc3, .bool p.2.2.1.1, .slice x0za5 x0zn5 x0zc5, .slice x0za6 x0zn6 x0zc6] 57))) _ from mC)) (lg k hk))
  have lg_x0 : ∀ k ∈ bg, w6.heap.size ≤ k := fun k hk => Nat.le_trans (More.size (show More w6 _ from mC)) (lg k hk)
  have lg_x1 : ∀ k ∈ bg, w7.heap.size ≤ k := fun k hk => Nat.le_trans (More.size (show More w7 _ from mC)) (lg k hk)
  go_wp2_with fail
  refine (laws_eqPointS _ _ r _ (Ty.at_more (Ty.rd_at (tPointS.own_rd G)) mC) (Ty.at_more (Ty.fresh_at Fy) mC) HrL.out).mono ?_
  rintro e w9 ⟨rfl, b9⟩
  have HBa0_9 := HBa0 w9 mC
  have HBa0s9 : W.heap.size < w9.heap.size := by have := More.size (show More (W.alloc (.cells #[.int .i64 p.1, .bool p.2.1.1.1, .slice s0a2 s0n2 s0c2, .slice s0a3 s0n3 s0c3, .bool p.2.2.1.1, .slice s0a5 s0n5 s0c5, .slice s0a6 s0n6 s0c6] 48)) w9 from mC); simp at this; omega
  try clear HBa0_8
  try clear HBa0s8
  have HBx0_9 := HBx0 w9 mC
  have HBx0s9 : w6.heap.size < w9.heap.size := by have := More.size (show More (w6.alloc (.cells #[.int .i64 p.1, .bool p.2.1.1.1, .slice x0za2 x0zn2 x0zc2, .slice x0za3 x0zn3 x0zc3, .bool p.2.2.1.1, .slice x0za5 x0zn5 x0zc5, .slice x0za6 x0zn6 x0zc6] 57)) w9 from mC); simp at this; omega
  try clear HBx0_8
  try clear HBx0s8
  go_wp2_with fail
  have RHBa0 := fun (w' : World) (h : More w9 w') => HBa0 w' (More.trans (show More ((W.alloc (.cells #[.int .i64 p.1, .bool p.2.1.1.1, .slice s0a2 s0n2 s0c2, .slice s0a3 s0n3 s0c3, .bool p.2.2.1.1, .slice s0a5 s0n5 s0c5, .slice s0a6 s0n6 s0c6] 48))) w9 from mC) h)
  clear HBa0_9
  have RHBx0 := fun (w' : World) (h : More w9 w') => HBx0 w' (More.trans (show More ((w6.alloc (.cells #[.int .i64 p.1, .bool p.2.1.1.1, .slice x0za2 x0zn2 x0zc2, .slice x0za3 x0zn3 x0zc3, .bool p.2.2.1.1, .slice x0za5 x0zn5 x0zc5, .slice x0za6 x0zn6 x0zc6] 57))) w9 from mC) h)
  clear HBx0_9
  go_region_held3 (fun w' => More w9 w') (first | exact More.refl _ | exact mC) (first | (go_at_call 22; (with_reducible refine (laws_toPlacement _ p _ (Ty.at_more HV0.out mC) Hs0.out).mono ?_); rintro e w10 ⟨t0, rfl, b10, Ft0⟩; obtain ⟨t0za2, t0zn2, t0zc2, t0za3, t0zn3, t0zc3, t0za5, t0zn5, t0zc5, t0za6, t0zn6, t0zc6, rfl⟩ := sh_Placement (Ty.fresh_at Ft0)) | (go_at_call 26; (with_reducible refine (laws_eqPlacement _ _ p _ (Ty.at_more (Ty.rd_at (tPlacement.own_rd X0)) mC) (Ty.at_more (Ty.fresh_at Ft0) (Turns.more (by ((repeat (first | (with_reducible apply Turns.drew) | (with_reducible apply Turns.drewN) | (with_reducible apply Turns.alloc))); exact Turns.refl _ _)))) Hs0.out).mono ?_); rintro e w11 ⟨rfl, b11⟩))
  clear RHBa0
  clear RHBx0
  have HBa0_11 := HBa0 w11 mC
  have HBa0s11 : W.heap.size < w11.heap.size := by have := More.size (show More (W.alloc (.cells #[.int .i64 p.1, .bool p.2.1.1.1, .slice s0a2 s0n2 s0c2, .slice s0a3 s0n3 s0c3, .bool p.2.2.1.1, .slice s0a5 s0n5 s0c5, .slice s0a6 s0n6 s0c6] 48)) w11 from mC); simp at this; omega
  try clear HBa0_10
  try clear HBa0s10
  have HBx0_11 := HBx0 w11 mC
  have HBx0s11 : w6.heap.size < w11.heap.size := by have := More.size (show More (w6.alloc (.cells #[.int .i64 p.1, .bool p.2.1.1.1, .slice x0za2 x0zn2 x0zc2, .slice x0za3 x0zn3 x0zc3, .bool p.2.2.1.1, .slice x0za5 x0zn5 x0zc5, .slice x0za6 x0zn6 x0zc6] 57)) w11 from mC); simp at this; omega
  try clear HBx0_10
  try clear HBx0s10
  go_wp2_with fail
  refine (laws_toStepS _ l _ (Ty.at_more HV1.out mC) Hs1.out).mono ?_
  rintro e w12 ⟨t1, rfl, b12, Ft1⟩
  have HBa0_12 := HBa0 w12 mC
  have HBa0s12 : W.heap.size < w12.heap.size := by have := More.size (show More (W.alloc (.cells #[.int .i64 p.1, .bool p.2.1.1.1, .slice s0a2 s0n2 s0c2, .slice s0a3 s0n3 s0c3, .bool p.2.2.1.1, .slice s0a5 s0n5 s0c5, .slice s0a6 s0n6 s0c6] 48)) w12 from mC); simp at this; omega
  try clear HBa0_11
  try clear HBa0s11
  have HBx0_12 := HBx0 w12 mC
  have HBx0s12 : w6.heap.size < w12.heap.size := by have := More.size (show More (w6.alloc (.cells #[.int .i64 p.1, .bool p.2.1.1.1, .slice x0za2 x0zn2 x0zc2, .slice x0za3 x0zn3 x0zc3, .bool p.2.2.1.1, .slice x0za5 x0zn5 x0zc5, .slice x0za6 x0zn6 x0zc6] 57)) w12 from mC); simp at this; omega
  try clear HBx0_11
  try clear HBx0s11
  go_wp2_with fail
  refine (laws_eqStepS _ _ l _ (Ty.at_more (Ty.rd_at (tStepS.own_rd X1)) mC) (Ty.at_more (Ty.fresh_at Ft1) mC) Hs1.out).mono ?_
  rintro e w13 ⟨rfl, b13⟩
  have HBa0_13 := HBa0 w13 mC
  have HBa0s13 : W.heap.size < w13.heap.size := by have := More.size (show More (W.alloc (.cells #[.int .i64 p.1, .bool p.2.1.1.1, .slice s0a2 s0n2 s0c2, .slice s0a3 s0n3 s0c3, .bool p.2.2.1.1, .slice s0a5 s0n5 s0c5, .slice s0a6 s0n6 s0c6] 48)) w13 from mC); simp at this; omega
  try clear HBa0_12
  try clear HBa0s12
  have HBx0_13 := HBx0 w13 mC
  have HBx0s13 : w6.heap.size < w13.heap.size := by have := More.size (show More (w6.alloc (.cells #[.int .i64 p.1, .bool p.2.1.1.1, .slice x0za2 x0zn2 x0zc2, .slice x0za3 x0zn3 x0zc3, .bool p.2.2.1.1, .slice x0za5 x0zn5 x0zc5, .slice x0za6 x0zn6 x0zc6] 57)) w13 from mC); simp at this; omega
  try clear HBx0_12
  try clear HBx0s12
  go_wp2_with fail
  refine (laws_markPlacement_ bx0 _ p _ _ (Ty.own_more X0 mC) nx0 (by omega) (by have h09 := HC0.out; have h19 := HC1.out; have := HC0.out; omega) Hs0.out).mono ?_
  rintro e w14 ⟨rfl, T14, M14⟩
  have x1o14 := Ty.own_turns (Ty.own_more X1 mC) T14 (fun k hk hk' => by have h1 := lx1_x0 k hk; have h2 := tPlacement.own_lt X0 k hk'; omega)
  have go14 := Ty.own_turns (Ty.own_more G mC) T14 (fun k hk hk' => by have h1 := lg_x0 k hk; have h2 := tPlacement.own_lt X0 k hk'; omega)
  have HBa0z' : W.heap.size < w14.heap.size := Nat.lt_of_lt_of_le (Nat.lt_of_lt_of_le (show W.heap.size < ((W.alloc (.cells #[.int .i64 p.1, .bool p.2.1.1.1, .slice s0a2 s0n2 s0c2, .slice s0a3 s0n3 s0c3, .bool p.2.2.1.1, .slice s0a5 s0n5 s0c5, .slice s0a6 s0n6 s0c6] 48))).heap.size from by (simp; try omega)) (More.size (show More ((W.alloc (.cells #[.int .i64 p.1, .bool p.2.1.1.1, .slice s0a2 s0n2 s0c2, .slice s0a3 s0n3 s0c3, .bool p.2.2.1.1, .slice s0a5 s0n5 s0c5, .slice s0a6 s0n6 s0c6] 48))) _ from mC))) T14.size
  have HBa0k : w14.cell? ⟨W.heap.size, 0, none⟩ = some (.int .i64 p.1) ∧ w14.cell? ⟨W.heap.size, 1, none⟩ = some (.bool p.2.1.1.1) ∧ w14.cell? ⟨W.heap.size, 2, none⟩ = some (.slice s0a2 s0n2 s0c2) ∧ w14.cell? ⟨W.heap.size, 3, none⟩ = some (.slice s0a3 s0n3 s0c3) ∧ w14.cell? ⟨W.heap.size, 4, none⟩ = some (.bool p.2.2.1.1) ∧ w14.cell? ⟨W.heap.size, 5, none⟩ = some (.slice s0a5 s0n5 s0c5) ∧ w14.cell? ⟨W.heap.size, 6, none⟩ = some (.slice s0a6 s0n6 s0c6) := ⟨turn_cell T14 (Nat.lt_of_lt_of_le (show W.heap.size < ((W.alloc (.cells #[.int .i64 p.1, .bool p.2.1.1.1, .slice s0a2 s0n2 s0c2, .slice s0a3 s0n3 s0c3, .bool p.2.2.1.1, .slice s0a5 s0n5 s0c5, .slice s0a6 s0n6 s0c6] 48))).heap.size from by (simp; try omega)) (More.size (show More ((W.alloc (.cells #[.int .i64 p.1, .bool p.2.1.1.1, .slice s0a2 s0n2 s0c2, .slice s0a3 s0n3 s0c3, .bool p.2.2.1.1, .slice s0a5 s0n5 s0c5, .slice s0a6 s0n6 s0c6] 48))) _ from mC))) (fun h => by have h1 := HBa0ltx0 _ h; omega) (HBa0 _ mC).1, turn_cell T14 (Nat.lt_of_lt_of_le (show W.heap.size < ((W.alloc (.cells #[.int .i64 p.1, .bool p.2.1.1.1, .slice s0a2 s0n2 s0c2, .slice s0a3 s0n3 s0c3, .bool p.2.2.1.1, .slice s0a5 s0n5 s0c5, .slice s0a6 s0n6 s0c6] 48))).heap.size from by (simp; try omega)) (More.size (show More ((W.alloc (.cells #[.int .i64 p.1, .bool p.2.1.1.1, .slice s0a2 s0n2 s0c2, .slice s0a3 s0n3 s0c3, .bool p.2.2.1.1, .slice s0a5 s0n5 s0c5, .slice s0a6 s0n6 s0c6] 48))) _ from mC))) (fun h => by have h1 := HBa0ltx0 _ h; omega) (HBa0 _ mC).2.1, turn_cell T14 (Nat.lt_of_lt_of_le (show W.heap.size < ((W.alloc (.cells #[.int .i64 p.1, .bool p.2.1.1.1, .slice s0a2 s0n2 s0c2, .slice s0a3 s0n3 s0c3, .bool p.2.2.1.1, .slice s0a5 s0n5 s0c5, .slice s0a6 s0n6 s0c6] 48))).heap.size from by (simp; try omega)) (More.size (show More ((W.alloc (.cells #[.int .i64 p.1, .bool p.2.1.1.1, .slice s0a2 s0n2 s0c2, .slice s0a3 s0n3 s0c3, .bool p.2.2.1.1, .slice s0a5 s0n5 s0c5, .slice s0a6 s0n6 s0c6] 48))) _ from mC))) (fun h => by have h1 := HBa0ltx0 _ h; omega) (HBa0 _ mC).2.2.1, turn_cell T14 (Nat.lt_of_lt_of_le (show W.heap.size < ((W.alloc (.cells #[.int .i64 p.1, .bool p.2.1.1.1, .slice s0a2 s0n2 s0c2, .slice s0a3 s0n3 s0c3, .bool p.2.2.1.1, .slice s0a5 s0n5 s0c5, .slice s0a6 s0n6 s0c6] 48))).heap.size from by (simp; try omega)) (More.size (show More ((W.alloc (.cells #[.int .i64 p.1, .bool p.2.1.1.1, .slice s0a2 s0n2 s0c2, .slice s0a3 s0n3 s0c3, .bool p.2.2.1.1, .slice s0a5 s0n5 s0c5, .slice s0a6 s0n6 s0c6] 48))) _ from mC))) (fun h => by have h1 := HBa0ltx0 _ h; omega) (HBa0 _ mC).2.2.2.1, turn_cell T14 (Nat.lt_of_lt_of_le (show W.heap.size < ((W.alloc (.cells #[.int .i64 p.1, .bool p.2.1.1.1, .slice s0a2 s0n2 s0c2, .slice s0a3 s0n3 s0c3, .bool p.2.2.1.1, .slice s0a5 s0n5 s0c5, .slice s0a6 s0n6 s0c6] 48))).heap.size from by (simp; try omega)) (More.size (show More ((W.alloc (.cells #[.int .i64 p.1, .bool p.2.1.1.1, .slice s0a2 s0n2 s0c2, .slice s0a3 s0n3 s0c3, .bool p.2.2.1.1, .slice s0a5 s0n5 s0c5, .slice s0a6 s0n6 s0c6] 48))) _ from mC))) (fun h => by have h1 := HBa0ltx0 _ h; omega) (HBa0 _ mC).2.2.2.2.1, turn_cell T14 (Nat.lt_of_lt_of_le (show W.heap.size < ((W.alloc (.cells #[.int .i64 p.1, .bool p.2.1.1.1, .slice s0a2 s0n2 s0c2, .slice s0a3 s0n3 s0c3, .bool p.2.2.1.1, .slice s0a5 s0n5 s0c5, .slice s0a6 s0n6 s0c6] 48))).heap.size from by (simp; try omega)) (More.size (show More ((W.alloc (.cells #[.int .i64 p.1, .bool p.2.1.1.1, .slice s0a2 s0n2 s0c2, .slice s0a3 s0n3 s0c3, .bool p.2.2.1.1, .slice s0a5 s0n5 s0c5, .slice s0a6 s0n6 s0c6] 48))) _ from mC))) (fun h => by have h1 := HBa0ltx0 _ h; omega) (HBa0 _ mC).2.2.2.2.2.1, turn_cell T14 (Nat.lt_of_lt_of_le (show W.heap.size < ((W.alloc (.cells #[.int .i64 p.1, .bool p.2.1.1.1, .slice s0a2 s0n2 s0c2, .slice s0a3 s0n3 s0c3, .bool p.2.2.1.1, .slice s0a5 s0n5 s0c5, .slice s0a6 s0n6 s0c6] 48))).heap.size from by (simp; try omega)) (More.size (show More ((W.alloc (.cells #[.int .i64 p.1, .bool p.2.1.1.1, .slice s0a2 s0n2 s0c2, .slice s0a3 s0n3 s0c3, .bool p.2.2.1.1, .slice s0a5 s0n5 s0c5, .slice s0a6 s0n6 s0c6] 48))) _ from mC))) (fun h => by have h1 := HBa0ltx0 _ h; omega) (HBa0 _ mC).2.2.2.2.2.2⟩
  have HBx0z' : w6.heap.size < w14.heap.size := Nat.lt_of_lt_of_le (Nat.lt_of_lt_of_le (show w6.heap.size < ((w6.alloc (.cells #[.int .i64 p.1, .bool p.2.1.1.1, .slice x0za2 x0zn2 x0zc2, .slice x0za3 x0zn3 x0zc3, .bool p.2.2.1.1, .slice x0za5 x0zn5 x0zc5, .slice x0za6 x0zn6 x0zc6] 57))).heap.size from by (simp; try omega)) (More.size (show More ((w6.alloc (.cells #[.int .i64 p.1, .bool p.2.1.1.1, .slice x0za2 x0zn2 x0zc2, .slice x0za3 x0zn3 x0zc3, .bool p.2.2.1.1, .slice x0za5 x0zn5 x0zc5, .slice x0za6 x0zn6 x0zc6] 57))) _ from mC))) T14.size
  have HBx0k : w14.cell? ⟨w6.heap.size, 0, none⟩ = some (.int .i64 p.1) ∧ w14.cell? ⟨w6.heap.size, 1, none⟩ = some (.bool p.2.1.1.1) ∧ w14.cell? ⟨w6.heap.size, 2, none⟩ = some (.slice x0za2 x0zn2 x0zc2) ∧ w14.cell? ⟨w6.heap.size, 3, none⟩ = some (.slice x0za3 x0zn3 x0zc3) ∧ w14.cell? ⟨w6.heap.size, 4, none⟩ = some (.bool p.2.2.1.1) ∧ w14.cell? ⟨w6.heap.size, 5, none⟩ = some (.slice x0za5 x0zn5 x0zc5) ∧ w14.cell? ⟨w6.heap.size, 6, none⟩ = some (.slice x0za6 x0zn6 x0zc6) := ⟨turn_cell T14 (Nat.lt_of_lt_of_le (show w6.heap.size < ((w6.alloc (.cells #[.int .i64 p.1, .bool p.2.1.1.1, .slice x0za2 x0zn2 x0zc2, .slice x0za3 x0zn3 x0zc3, .bool p.2.2.1.1, .slice x0za5 x0zn5 x0zc5, .slice x0za6 x0zn6 x0zc6] 57))).heap.size from by (simp; try omega)) (More.size (show More ((w6.alloc (.cells #[.int .i64 p.1, .bool p.2.1.1.1, .slice x0za2 x0zn2 x0zc2, .slice x0za3 x0zn3 x0zc3, .bool p.2.2.1.1, .slice x0za5 x0zn5 x0zc5, .slice x0za6 x0zn6 x0zc6] 57))) _ from mC))) (fun h => by have h1 := HBx0gex0; have h2 := tPlacement.own_lt X0 _ h; omega) (HBx0 _ mC).1, turn_cell T14 (Nat.lt_of_lt_of_le (show w6.heap.size < ((w6.alloc (.cells #[.int .i64 p.1, .bool p.2.1.1.1, .slice x0za2 x0zn2 x0zc2, .slice x0za3 x0zn3 x0zc3, .bool p.2.2.1.1, .slice x0za5 x0zn5 x0zc5, .slice x0za6 x0zn6 x0zc6] 57))).heap.size from by (simp; try omega)) (More.size (show More ((w6.alloc (.cells #[.int .i64 p.1, .bool p.2.1.1.1, .slice x0za2 x0zn2 x0zc2, .slice x0za3 x0zn3 x0zc3, .bool p.2.2.1.1, .slice x0za5 x0zn5 x0zc5, .slice x0za6 x0zn6 x0zc6] 57))) _ from mC))) (fun h => by have h1 := HBx0gex0; have h2 := tPlacement.own_lt X0 _ h; omega) (HBx0 _ mC).2.1, turn_cell T14 (Nat.lt_of_lt_of_le (show w6.heap.size < ((w6.alloc (.cells #[.int .i64 p.1, .bool p.2.1.1.1, .slice x0za2 x0zn2 x0zc2, .slice x0za3 x0zn3 x0zc3, .bool p.2.2.1.1, .slice x0za5 x0zn5 x0zc5, .slice x0za6 x0zn6 x0zc6] 57))).heap.size from by (simp; try omega)) (More.size (show More ((w6.alloc (.cells #[.int .i64 p.1, .bool p.2.1.1.1, .slice x0za2 x0zn2 x0zc2, .slice x0za3 x0zn3 x0zc3, .bool p.2.2.1.1, .slice x0za5 x0zn5 x0zc5, .slice x0za6 x0zn6 x0zc6] 57))) _ from mC))) (fun h => by have h1 := HBx0gex0; have h2 := tPlacement.own_lt X0 _ h; omega) (HBx0 _ mC).2.2.1, turn_cell T14 (Nat.lt_of_lt_of_le (show w6.heap.size < ((w6.alloc (.cells #[.int .i64 p.1, .bool p.2.1.1.1, .slice x0za2 x0zn2 x0zc2, .slice x0za3 x0zn3 x0zc3, .bool p.2.2.1.1, .slice x0za5 x0zn5 x0zc5, .slice x0za6 x0zn6 x0zc6] 57))).heap.size from by (simp; try omega)) (More.size (show More ((w6.alloc (.cells #[.int .i64 p.1, .bool p.2.1.1.1, .slice x0za2 x0zn2 x0zc2, .slice x0za3 x0zn3 x0zc3, .bool p.2.2.1.1, .slice x0za5 x0zn5 x0zc5, .slice x0za6 x0zn6 x0zc6] 57))) _ from mC))) (fun h => by have h1 := HBx0gex0; have h2 := tPlacement.own_lt X0 _ h; omega) (HBx0 _ mC).2.2.2.1, turn_cell T14 (Nat.lt_of_lt_of_le (show w6.heap.size < ((w6.alloc (.cells #[.int .i64 p.1, .bool p.2.1.1.1, .slice x0za2 x0zn2 x0zc2, .slice x0za3 x0zn3 x0zc3, .bool p.2.2.1.1, .slice x0za5 x0zn5 x0zc5, .slice x0za6 x0zn6 x0zc6] 57))).heap.size from by (simp; try omega)) (More.size (show More ((w6.alloc (.cells #[.int .i64 p.1, .bool p.2.1.1.1, .slice x0za2 x0zn2 x0zc2, .slice x0za3 x0zn3 x0zc3, .bool p.2.2.1.1, .slice x0za5 x0zn5 x0zc5, .slice x0za6 x0zn6 x0zc6] 57))) _ from mC))) (fun h => by have h1 := HBx0gex0; have h2 := tPlacement.own_lt X0 _ h; omega) (HBx0 _ mC).2.2.2.2.1, turn_cell T14 (Nat.lt_of_lt_of_le (show w6.heap.size < ((w6.alloc (.cells #[.int .i64 p.1, .bool p.2.1.1.1, .slice x0za2 x0zn2 x0zc2, .slice x0za3 x0zn3 x0zc3, .bool p.2.2.1.1, .slice x0za5 x0zn5 x0zc5, .slice x0za6 x0zn6 x0zc6] 57))).heap.size from by (simp; try omega)) (More.size (show More ((w6.alloc (.cells #[.int .i64 p.1, .bool p.2.1.1.1, .slice x0za2 x0zn2 x0zc2, .slice x0za3 x0zn3 x0zc3, .bool p.2.2.1.1, .slice x0za5 x0zn5 x0zc5, .slice x0za6 x0zn6 x0zc6] 57))) _ from mC))) (fun h => by have h1 := HBx0gex0; have h2 := tPlacement.own_lt X0 _ h; omega) (HBx0 _ mC).2.2.2.2.2.1, turn_cell T14 (Nat.lt_of_lt_of_le (show w6.heap.size < ((w6.alloc (.cells #[.int .i64 p.1, .bool p.2.1.1.1, .slice x0za2 x0zn2 x0zc2, .slice x0za3 x0zn3 x0zc3, .bool p.2.2.1.1, .slice x0za5 x0zn5 x0zc5, .slice x0za6 x0zn6 x0zc6] 57))).heap.size from by (simp; try omega)) (More.size (show More ((w6.alloc (.cells #[.int .i64 p.1, .bool p.2.1.1.1, .slice x0za2 x0zn2 x0zc2, .slice x0za3 x0zn3 x0zc3, .bool p.2.2.1.1, .slice x0za5 x0zn5 x0zc5, .slice x0za6 x0zn6 x0zc6] 57))) _ from mC))) (fun h => by have h1 := HBx0gex0; have h2 := tPlacement.own_lt X0 _ h; omega) (HBx0 _ mC).2.2.2.2.2.2⟩
  have b14 := More.turn (b6.trans mC) T14 lx0
  try clear HBa0_13
  try clear HBa0s13
  clear HBa0
  have HBa0 : ∀ w', More w14 w' → w'.cell? ⟨W.heap.size, 0, none⟩ = some (.int .i64 p.1) ∧ w'.cell? ⟨W.heap.size, 1, none⟩ = some (.bool p.2.1.1.1) ∧ w'.cell? ⟨W.heap.size, 2, none⟩ = some (.slice s0a2 s0n2 s0c2) ∧ w'.cell? ⟨W.heap.size, 3, none⟩ = some (.slice s0a3 s0n3 s0c3) ∧ w'.cell? ⟨W.heap.size, 4, none⟩ = some (.bool p.2.2.1.1) ∧ w'.cell? ⟨W.heap.size, 5, none⟩ = some (.slice s0a5 s0n5 s0c5) ∧ w'.cell? ⟨W.heap.size, 6, none⟩ = some (.slice s0a6 s0n6 s0c6) := fun w' h => ⟨box_keep h HBa0z' (HBa0k.1), box_keep h HBa0z' (HBa0k.2.1), box_keep h HBa0z' (HBa0k.2.2.1), box_keep h HBa0z' (HBa0k.2.2.2.1), box_keep h HBa0z' (HBa0k.2.2.2.2.1), box_keep h HBa0z' (HBa0k.2.2.2.2.2.1), box_keep h HBa0z' (HBa0k.2.2.2.2.2.2)⟩
  try clear HBa0z
  have HBa0z := HBa0z'; clear HBa0z' HBa0k
  have HBa0_14 := HBa0 w14 (More.refl _)
  have HBa0s14 := HBa0z
  try clear HBx0_13
  try clear HBx0s13
  clear HBx0
  have HBx0 : ∀ w', More w14 w' → w'.cell? ⟨w6.heap.size, 0, none⟩ = some (.int .i64 p.1) ∧ w'.cell? ⟨w6.heap.size, 1, none⟩ = some (.bool p.2.1.1.1) ∧ w'.cell? ⟨w6.heap.size, 2, none⟩ = some (.slice x0za2 x0zn2 x0zc2) ∧ w'.cell? ⟨w6.heap.size, 3, none⟩ = some (.slice x0za3 x0zn3 x0zc3) ∧ w'.cell? ⟨w6.heap.size, 4, none⟩ = some (.bool p.2.2.1.1) ∧ w'.cell? ⟨w6.heap.size, 5, none⟩ = some (.slice x0za5 x0zn5 x0zc5) ∧ w'.cell? ⟨w6.heap.size, 6, none⟩ = some (.slice x0za6 x0zn6 x0zc6) := fun w' h => ⟨box_keep h HBx0z' (HBx0k.1), box_keep h HBx0z' (HBx0k.2.1), box_keep h HBx0z' (HBx0k.2.2.1), box_keep h HBx0z' (HBx0k.2.2.2.1), box_keep h HBx0z' (HBx0k.2.2.2.2.1), box_keep h HBx0z' (HBx0k.2.2.2.2.2.1), box_keep h HBx0z' (HBx0k.2.2.2.2.2.2)⟩
  try clear HBx0z
  have HBx0z := HBx0z'; clear HBx0z' HBx0k
  have HBx0_14 := HBx0 w14 (More.refl _)
  have HBx0s14 := HBx0z
  have k14 : 0 ≤ 1 + ((cPlacement p : Nat) : Int) := by omega
  go_wp2_with fail
  refine (laws_markStepS_ bx1 _ l _ _ (Ty.own_more x1o14 mC) nx1 (by omega) (by have h09 := HC0.out; have h19 := HC1.out; have := HC1.out; omega) Hs1.out).mono ?_
  rintro e w15 ⟨rfl, T15, M15⟩
  have go15 := Ty.own_turns (Ty.own_more go14 mC) T15 (fun k hk hk' => by have h1 := lg_x1 k hk; have h2 := tStepS.own_lt X1 k hk'; omega)
  have HBa0z' : W.heap.size < w15.heap.size := Nat.lt_of_lt_of_le (Nat.lt_of_lt_of_le (show W.heap.size < (w14).heap.size from by exact HBa0z) (More.size (show More (w14) _ from mC))) T15.size
  have HBa0k : w15.cell? ⟨W.heap.size, 0, none⟩ = some (.int .i64 p.1) ∧ w15.cell? ⟨W.heap.size, 1, none⟩ = some (.bool p.2.1.1.1) ∧ w15.cell? ⟨W.heap.size, 2, none⟩ = some (.slice s0a2 s0n2 s0c2) ∧ w15.cell? ⟨W.heap.size, 3, none⟩ = some (.slice s0a3 s0n3 s0c3) ∧ w15.cell? ⟨W.heap.size, 4, none⟩ = some (.bool p.2.2.1.1) ∧ w15.cell? ⟨W.heap.size, 5, none⟩ = some (.slice s0a5 s0n5 s0c5) ∧ w15.cell? ⟨W.heap.size, 6, none⟩ = some (.slice s0a6 s0n6 s0c6) := ⟨turn_cell T15 (Nat.lt_of_lt_of_le (show W.heap.size < (w14).heap.size from by exact HBa0z) (More.size (show More (w14) _ from mC))) (fun h => by have h1 := HBa0ltx1 _ h; omega) (HBa0 _ mC).1, turn_cell T15 (Nat.lt_of_lt_of_le (show W.heap.size < (w14).heap.size from by exact HBa0z) (More.size (show More (w14) _ from mC))) (fun h => by have h1 := HBa0ltx1 _ h; omega) (HBa0 _ mC).2.1, turn_cell T15 (Nat.lt_of_lt_of_le (show W.heap.size < (w14).heap.size from by exact HBa0z) (More.size (show More (w14) _ from mC))) (fun h => by have h1 := HBa0ltx1 _ h; omega) (HBa0 _ mC).2.2.1, turn_cell T15 (Nat.lt_of_lt_of_le (show W.heap.size < (w14).heap.size from by exact HBa0z) (More.size (show More (w14) _ from mC))) (fun h => by have h1 := HBa0ltx1 _ h; omega) (HBa0 _ mC).2.2.2.1, turn_cell T15 (Nat.lt_of_lt_of_le (show W.heap.size < (w14).heap.size from by exact HBa0z) (More.size (show More (w14) _ from mC))) (fun h => by have h1 := HBa0ltx1 _ h; omega) (HBa0 _ mC).2.2.2.2.1, turn_cell T15 (Nat.lt_of_lt_of_le (show W.heap.size < (w14).heap.size from by exact HBa0z) (More.size (show More (w14) _ from mC))) (fun h => by have h1 := HBa0ltx1 _ h; omega) (HBa0 _ mC).2.2.2.2.2.1, turn_cell T15 (Nat.lt_of_lt_of_le (show W.heap.size < (w14).heap.size from by exact HBa0z) (More.size (show More (w14) _ from mC))) (fun h => by have h1 := HBa0ltx1 _ h; omega) (HBa0 _ mC).2.2.2.2.2.2⟩
  have HBx0z' : w6.heap.size < w15.heap.size := Nat.lt_of_lt_of_le (Nat.lt_of_lt_of_le (show w6.heap.size < (w14).heap.size from by exact HBx0z) (More.size (show More (w14) _ from mC))) T15.size
  have HBx0k : w15.cell? ⟨w6.heap.size, 0, none⟩ = some (.int .i64 p.1) ∧ w15.cell? ⟨w6.heap.size, 1, none⟩ = some (.bool p.2.1.1.1) ∧ w15.cell? ⟨w6.heap.size, 2, none⟩ = some (.slice x0za2 x0zn2 x0zc2) ∧ w15.cell? ⟨w6.heap.size, 3, none⟩ = some (.slice x0za3 x0zn3 x0zc3) ∧ w15.cell? ⟨w6.heap.size, 4, none⟩ = some (.bool p.2.2.1.1) ∧ w15.cell? ⟨w6.heap.size, 5, none⟩ = some (.slice x0za5 x0zn5 x0zc5) ∧ w15.cell? ⟨w6.heap.size, 6, none⟩ = some (.slice x0za6 x0zn6 x0zc6) := ⟨turn_cell T15 (Nat.lt_of_lt_of_le (show w6.heap.size < (w14).heap.size from by exact HBx0z) (More.size (show More (w14) _ from mC))) (fun h => by have h1 := HBx0ltx1 _ h; omega) (HBx0 _ mC).1, turn_cell T15 (Nat.lt_of_lt_of_le (show w6.heap.size < (w14).heap.size from by exact HBx0z) (More.size (show More (w14) _ from mC))) (fun h => by have h1 := HBx0ltx1 _ h; omega) (HBx0 _ mC).2.1, turn_cell T15 (Nat.lt_of_lt_of_le (show w6.heap.size < (w14).heap.size from by exact HBx0z) (More.size (show More (w14) _ from mC))) (fun h => by have h1 := HBx0ltx1 _ h; omega) (HBx0 _ mC).2.2.1, turn_cell T15 (Nat.lt_of_lt_of_le (show w6.heap.size < (w14).heap.size from by exact HBx0z) (More.size (show More (w14) _ from mC))) (fun h => by have h1 := HBx0ltx1 _ h; omega) (HBx0 _ mC).2.2.2.1, turn_cell T15 (Nat.lt_of_lt_of_le (show w6.heap.size < (w14).heap.size from by exact HBx0z) (More.size (show More (w14) _ from mC))) (fun h => by have h1 := HBx0ltx1 _ h; omega) (HBx0 _ mC).2.2.2.2.1, turn_cell T15 (Nat.lt_of_lt_of_le (show w6.heap.size < (w14).heap.size from by exact HBx0z) (More.size (show More (w14) _ from mC))) (fun h => by have h1 := HBx0ltx1 _ h; omega) (HBx0 _ mC).2.2.2.2.2.1, turn_cell T15 (Nat.lt_of_lt_of_le (show w6.heap.size < (w14).heap.size from by exact HBx0z) (More.size (show More (w14) _ from mC))) (fun h => by have h1 := HBx0ltx1 _ h; omega) (HBx0 _ mC).2.2.2.2.2.2⟩
  have b15 := More.turn (b14.trans mC) T15 (fun k hk => Nat.le_trans (More.size (b6.trans mC)) (lx1 k hk))
  try clear HBa0_14
  try clear HBa0s14
  clear HBa0
  have HBa0 : ∀ w', More w15 w' → w'.cell? ⟨W.heap.size, 0, none⟩ = some (.int .i64 p.1) ∧ w'.cell? ⟨W.heap.size, 1, none⟩ = some (.bool p.2.1.1.1) ∧ w'.cell? ⟨W.heap.size, 2, none⟩ = some (.slice s0a2 s0n2 s0c2) ∧ w'.cell? ⟨W.heap.size, 3, none⟩ = some (.slice s0a3 s0n3 s0c3) ∧ w'.cell? ⟨W.heap.size, 4, none⟩ = some (.bool p.2.2.1.1) ∧ w'.cell? ⟨W.heap.size, 5, none⟩ = some (.slice s0a5 s0n5 s0c5) ∧ w'.cell? ⟨W.heap.size, 6, none⟩ = some (.slice s0a6 s0n6 s0c6) := fun w' h => ⟨box_keep h HBa0z' (HBa0k.1), box_keep h HBa0z' (HBa0k.2.1), box_keep h HBa0z' (HBa0k.2.2.1), box_keep h HBa0z' (HBa0k.2.2.2.1), box_keep h HBa0z' (HBa0k.2.2.2.2.1), box_keep h HBa0z' (HBa0k.2.2.2.2.2.1), box_keep h HBa0z' (HBa0k.2.2.2.2.2.2)⟩
  try clear HBa0z
  have HBa0z := HBa0z'; clear HBa0z' HBa0k
  have HBa0_15 := HBa0 w15 (More.refl _)
  have HBa0s15 := HBa0z
  try clear HBx0_14
  try clear HBx0s14
  clear HBx0
  have HBx0 : ∀ w', More w15 w' → w'.cell? ⟨w6.heap.size, 0, none⟩ = some (.int .i64 p.1) ∧ w'.cell? ⟨w6.heap.size, 1, none⟩ = some (.bool p.2.1.1.1) ∧ w'.cell? ⟨w6.heap.size, 2, none⟩ = some (.slice x0za2 x0zn2 x0zc2) ∧ w'.cell? ⟨w6.heap.size, 3, none⟩ = some (.slice x0za3 x0zn3 x0zc3) ∧ w'.cell? ⟨w6.heap.size, 4, none⟩ = some (.bool p.2.2.1.1) ∧ w'.cell? ⟨w6.heap.size, 5, none⟩ = some (.slice x0za5 x0zn5 x0zc5) ∧ w'.cell? ⟨w6.heap.size, 6, none⟩ = some (.slice x0za6 x0zn6 x0zc6) := fun w' h => ⟨box_keep h HBx0z' (HBx0k.1), box_keep h HBx0z' (HBx0k.2.1), box_keep h HBx0z' (HBx0k.2.2.1), box_keep h HBx0z' (HBx0k.2.2.2.1), box_keep h HBx0z' (HBx0k.2.2.2.2.1), box_keep h HBx0z' (HBx0k.2.2.2.2.2.1), box_keep h HBx0z' (HBx0k.2.2.2.2.2.2)⟩
  try clear HBx0z
  have HBx0z := HBx0z'; clear HBx0z' HBx0k
  have HBx0_15 := HBx0 w15 (More.refl _)
  have HBx0s15 := HBx0z
  have k15 : ¬ (1 + ((cPlacement p : Nat) : Int) + ((cStepS l : Nat) : Int) < 0) := by omega
  go_wp2_with fail
  refine (laws_eqPointS _ _ r _ (Ty.at_more (Ty.rd_at (tPointS.own_rd go15)) mC) (Ty.at_more (Ty.fresh_at Fy) mC) HrL.out).mono ?_
  rintro e w16 ⟨rfl, b16⟩
  have HBa0_16 := HBa0 w16 mC
  have HBa0s16 : W.heap.size < w16.heap.size := by have := More.size (show More w15 w16 from mC); have := HBa0z; omega
  try clear HBa0_15
  try clear HBa0s15
  have HBx0_16 := HBx0 w16 mC
  have HBx0s16 : w6.heap.size < w16.heap.size := by have := More.size (show More w15 w16 from mC); have := HBx0z; omega
  try clear HBx0_15
  try clear HBx0s15
  go_wp2_with fail
  refine (laws_markPointS_ bg _ r _ _ (Ty.own_more go15 mC) ng (by omega) (by have h09 := HC0.out; have h19 := HC1.out; have := HrC.out; omega) HrL.out).mono ?_
  rintro e w17 ⟨rfl, T17, M17⟩
  have HBa0z' : W.heap.size < w17.heap.size := Nat.lt_of_lt_of_le (Nat.lt_of_lt_of_le (show W.heap.size < (w15).heap.size from by exact HBa0z) (More.size (show More (w15) _ from mC))) T17.size
  have HBa0k : w17.cell? ⟨W.heap.size, 0, none⟩ = some (.int .i64 p.1) ∧ w17.cell? ⟨W.heap.size, 1, none⟩ = some (.bool p.2.1.1.1) ∧ w17.cell? ⟨W.heap.size, 2, none⟩ = some (.slice s0a2 s0n2 s0c2) ∧ w17.cell? ⟨W.heap.size, 3, none⟩ = some (.slice s0a3 s0n3 s0c3) ∧ w17.cell? ⟨W.heap.size, 4, none⟩ = some (.bool p.2.2.1.1) ∧ w17.cell? ⟨W.heap.size, 5, none⟩ = some (.slice s0a5 s0n5 s0c5) ∧ w17.cell? ⟨W.heap.size, 6, none⟩ = some (.slice s0a6 s0n6 s0c6) := ⟨turn_cell T17 (Nat.lt_of_lt_of_le (show W.heap.size < (w15).heap.size from by exact HBa0z) (More.size (show More (w15) _ from mC))) (fun h => by have h1 := HBa0ltg _ h; omega) (HBa0 _ mC).1, turn_cell T17 (Nat.lt_of_lt_of_le (show W.heap.size < (w15).heap.size from by exact HBa0z) (More.size (show More (w15) _ from mC))) (fun h => by have h1 := HBa0ltg _ h; omega) (HBa0 _ mC).2.1, turn_cell T17 (Nat.lt_of_lt_of_le (show W.heap.size < (w15).heap.size from by exact HBa0z) (More.size (show More (w15) _ from mC))) (fun h => by have h1 := HBa0ltg _ h; omega) (HBa0 _ mC).2.2.1, turn_cell T17 (Nat.lt_of_lt_of_le (show W.heap.size < (w15).heap.size from by exact HBa0z) (More.size (show More (w15) _ from mC))) (fun h => by have h1 := HBa0ltg _ h; omega) (HBa0 _ mC).2.2.2.1, turn_cell T17 (Nat.lt_of_lt_of_le (show W.heap.size < (w15).heap.size from by exact HBa0z) (More.size (show More (w15) _ from mC))) (fun h => by have h1 := HBa0ltg _ h; omega) (HBa0 _ mC).2.2.2.2.1, turn_cell T17 (Nat.lt_of_lt_of_le (show W.heap.size < (w15).heap.size from by exact HBa0z) (More.size (show More (w15) _ from mC))) (fun h => by have h1 := HBa0ltg _ h; omega) (HBa0 _ mC).2.2.2.2.2.1, turn_cell T17 (Nat.lt_of_lt_of_le (show W.heap.size < (w15).heap.size from by exact HBa0z) (More.size (show More (w15) _ from mC))) (fun h => by have h1 := HBa0ltg _ h; omega) (HBa0 _ mC).2.2.2.2.2.2⟩
  have HBx0z' : w6.heap.size < w17.heap.size := Nat.lt_of_lt_of_le (Nat.lt_of_lt_of_le (show w6.heap.size < (w15).heap.size from by exact HBx0z) (More.size (show More (w15) _ from mC))) T17.size
  have HBx0k : w17.cell? ⟨w6.heap.size, 0, none⟩ = some (.int .i64 p.1) ∧ w17.cell? ⟨w6.heap.size, 1, none⟩ = some (.bool p.2.1.1.1) ∧ w17.cell? ⟨w6.heap.size, 2, none⟩ = some (.slice x0za2 x0zn2 x0zc2) ∧ w17.cell? ⟨w6.heap.size, 3, none⟩ = some (.slice x0za3 x0zn3 x0zc3) ∧ w17.cell? ⟨w6.heap.size, 4, none⟩ = some (.bool p.2.2.1.1) ∧ w17.cell? ⟨w6.heap.size, 5, none⟩ = some (.slice x0za5 x0zn5 x0zc5) ∧ w17.cell? ⟨w6.heap.size, 6, none⟩ = some (.slice x0za6 x0zn6 x0zc6) := ⟨turn_cell T17 (Nat.lt_of_lt_of_le (show w6.heap.size < (w15).heap.size from by exact HBx0z) (More.size (show More (w15) _ from mC))) (fun h => by have h1 := HBx0ltg _ h; omega) (HBx0 _ mC).1, turn_cell T17 (Nat.lt_of_lt_of_le (show w6.heap.size < (w15).heap.size from by exact HBx0z) (More.size (show More (w15) _ from mC))) (fun h => by have h1 := HBx0ltg _ h; omega) (HBx0 _ mC).2.1, turn_cell T17 (Nat.lt_of_lt_of_le (show w6.heap.size < (w15).heap.size from by exact HBx0z) (More.size (show More (w15) _ from mC))) (fun h => by have h1 := HBx0ltg _ h; omega) (HBx0 _ mC).2.2.1, turn_cell T17 (Nat.lt_of_lt_of_le (show w6.heap.size < (w15).heap.size from by exact HBx0z) (More.size (show More (w15) _ from mC))) (fun h => by have h1 := HBx0ltg _ h; omega) (HBx0 _ mC).2.2.2.1, turn_cell T17 (Nat.lt_of_lt_of_le (show w6.heap.size < (w15).heap.size from by exact HBx0z) (More.size (show More (w15) _ from mC))) (fun h => by have h1 := HBx0ltg _ h; omega) (HBx0 _ mC).2.2.2.2.1, turn_cell T17 (Nat.lt_of_lt_of_le (show w6.heap.size < (w15).heap.size from by exact HBx0z) (More.size (show More (w15) _ from mC))) (fun h => by have h1 := HBx0ltg _ h; omega) (HBx0 _ mC).2.2.2.2.2.1, turn_cell T17 (Nat.lt_of_lt_of_le (show w6.heap.size < (w15).heap.size from by exact HBx0z) (More.size (show More (w15) _ from mC))) (fun h => by have h1 := HBx0ltg _ h; omega) (HBx0 _ mC).2.2.2.2.2.2⟩
  have b17 := More.turn (b15.trans mC) T17 (fun k hk => Nat.le_trans (More.size (b6.trans mC)) (lg k hk))
  try clear HBa0_16
  try clear HBa0s16
  clear HBa0
  have HBa0 : ∀ w', More w17 w' → w'.cell? ⟨W.heap.size, 0, none⟩ = some (.int .i64 p.1) ∧ w'.cell? ⟨W.heap.size, 1, none⟩ = some (.bool p.2.1.1.1) ∧ w'.cell? ⟨W.heap.size, 2, none⟩ = some (.slice s0a2 s0n2 s0c2) ∧ w'.cell? ⟨W.heap.size, 3, none⟩ = some (.slice s0a3 s0n3 s0c3) ∧ w'.cell? ⟨W.heap.size, 4, none⟩ = some (.bool p.2.2.1.1) ∧ w'.cell? ⟨W.heap.size, 5, none⟩ = some (.slice s0a5 s0n5 s0c5) ∧ w'.cell? ⟨W.heap.size, 6, none⟩ = some (.slice s0a6 s0n6 s0c6) := fun w' h => ⟨box_keep h HBa0z' (HBa0k.1), box_keep h HBa0z' (HBa0k.2.1), box_keep h HBa0z' (HBa0k.2.2.1), box_keep h HBa0z' (HBa0k.2.2.2.1), box_keep h HBa0z' (HBa0k.2.2.2.2.1), box_keep h HBa0z' (HBa0k.2.2.2.2.2.1), box_keep h HBa0z' (HBa0k.2.2.2.2.2.2)⟩
  try clear HBa0z
  have HBa0z := HBa0z'; clear HBa0z' HBa0k
  have HBa0_17 := HBa0 w17 (More.refl _)
  have HBa0s17 := HBa0z
  try clear HBx0_16
  try clear HBx0s16
  clear HBx0
  have HBx0 : ∀ w', More w17 w' → w'.cell? ⟨w6.heap.size, 0, none⟩ = some (.int .i64 p.1) ∧ w'.cell? ⟨w6.heap.size, 1, none⟩ = some (.bool p.2.1.1.1) ∧ w'.cell? ⟨w6.heap.size, 2, none⟩ = some (.slice x0za2 x0zn2 x0zc2) ∧ w'.cell? ⟨w6.heap.size, 3, none⟩ = some (.slice x0za3 x0zn3 x0zc3) ∧ w'.cell? ⟨w6.heap.size, 4, none⟩ = some (.bool p.2.2.1.1) ∧ w'.cell? ⟨w6.heap.size, 5, none⟩ = some (.slice x0za5 x0zn5 x0zc5) ∧ w'.cell? ⟨w6.heap.size, 6, none⟩ = some (.slice x0za6 x0zn6 x0zc6) := fun w' h => ⟨box_keep h HBx0z' (HBx0k.1), box_keep h HBx0z' (HBx0k.2.1), box_keep h HBx0z' (HBx0k.2.2.1), box_keep h HBx0z' (HBx0k.2.2.2.1), box_keep h HBx0z' (HBx0k.2.2.2.2.1), box_keep h HBx0z' (HBx0k.2.2.2.2.2.1), box_keep h HBx0z' (HBx0k.2.2.2.2.2.2)⟩
  try clear HBx0z
  have HBx0z := HBx0z'; clear HBx0z' HBx0k
  have HBx0_17 := HBx0 w17 (More.refl _)
  have HBx0s17 := HBx0z
  go_wp2_with fail
  refine (laws_heldPointS_ _ r _ _ (Ty.at_more (Ty.rd_at (tPointS.own_rd M17)) mC) (by decide) (by have := HrC.out; omega) HrL.out).mono ?_
  rintro e w18 ⟨rfl, b18⟩
  have HBa0_18 := HBa0 w18 mC
  have HBa0s18 : W.heap.size < w18.heap.size := by have := More.size (show More w17 w18 from mC); have := HBa0z; omega
  try clear HBa0_17
  try clear HBa0s17
  have HBx0_18 := HBx0 w18 mC
  have HBx0s18 : w6.heap.size < w18.heap.size := by have := More.size (show More w17 w18 from mC); have := HBx0z; omega
  try clear HBx0_17
  try clear HBx0s17
  have q18 : ¬ ((1 : Int) + ((cPointS r : Nat) : Int) < 0) := by omega
  go_wp2_with fail
  refine (laws_toPlacement _ p _ (Ty.at_more HV0.out mC) Hs0.out).mono ?_
  rintro e w19 ⟨z0, rfl, b19, Fz0⟩
  have HBa0_19 := HBa0 w19 mC
  have HBa0s19 : W.heap.size < w19.heap.size := by have := More.size (show More w17 w19 from mC); have := HBa0z; omega
  try clear HBa0_18
  try clear HBa0s18
  have HBx0_19 := HBx0 w19 mC
  have HBx0s19 : w6.heap.size < w19.heap.size := by have := More.size (show More w17 w19 from mC); have := HBx0z; omega
  try clear HBx0_18
  try clear HBx0s18
  obtain ⟨z0za2, z0zn2, z0zc2, z0za3, z0zn3, z0zc3, z0za5, z0zn5, z0zc5, z0za6, z0zn6, z0zc6, rfl⟩ := sh_Placement (Ty.fresh_at Fz0)
  go_wp2_with fail
  refine (laws_toStepS _ l _ (Ty.at_more HV1.out mC) Hs1.out).mono ?_
  rintro e w20 ⟨z1, rfl, b20, Fz1⟩
  have HBa0_20 := HBa0 w20 mC
  have HBa0s20 : W.heap.size < w20.heap.size := by have := More.size (show More w17 w20 from mC); have := HBa0z; omega
  try clear HBa0_19
  try clear HBa0s19
  have HBx0_20 := HBx0 w20 mC
  have HBx0s20 : w6.heap.size < w20.heap.size := by have := More.size (show More w17 w20 from mC); have := HBx0z; omega
  try clear HBx0_19
  try clear HBx0s19
  go_wp2_with fail
  refine (impl_MotionPoints _ p _ l _ (Ty.at_more (Ty.fresh_at Fz0) mC) Hs0.out (Ty.at_more (Ty.fresh_at Fz1) mC) Hs1.out).mono ?_
  rintro e w21 ⟨h, rfl, b21, Fh⟩
  rw [← ER.out] at Fh
  have HBa0_21 := HBa0 w21 mC
  have HBa0s21 : W.heap.size < w21.heap.size := by have := More.size (show More w17 w21 from mC); have := HBa0z; omega
  try clear HBa0_20
  try clear HBa0s20
  have HBx0_21 := HBx0 w21 mC
  have HBx0s21 : w6.heap.size < w21.heap.size := by have := More.size (show More w17 w21 from mC); have := HBx0z; omega
  try clear HBx0_20
  try clear HBx0s20
  go_wp2_with fail
  refine (laws_eqPointS _ _ r _ (Ty.at_more (Ty.fresh_at Fh) mC) (Ty.at_more (Ty.fresh_at Fy) mC) HrL.out).mono ?_
  rintro e w22 ⟨rfl, b22⟩
  have HBa0_22 := HBa0 w22 mC
  have HBa0s22 : W.heap.size < w22.heap.size := by have := More.size (show More w17 w22 from mC); have := HBa0z; omega
  try clear HBa0_21
  try clear HBa0s21
  have HBx0_22 := HBx0 w22 mC
  have HBx0s22 : w6.heap.size < w22.heap.size := by have := More.size (show More w17 w22 from mC); have := HBx0z; omega
  try clear HBx0_21
  try clear HBx0s21
  go_wp2_with fail
  refine (laws_heldPointS_ _ r _ _ (Ty.at_more (Ty.rd_at (tPointS.own_rd M17)) mC) (by decide) (by have := HrC.out; omega) HrL.out).mono ?_
  rintro e w23 ⟨rfl, b23⟩
  have HBa0_23 := HBa0 w23 mC
  have HBa0s23 : W.heap.size < w23.heap.size := by have := More.size (show More w17 w23 from mC); have := HBa0z; omega
  try clear HBa0_22
  try clear HBa0s22
  have HBx0_23 := HBx0 w23 mC
  have HBx0s23 : w6.heap.size < w23.heap.size := by have := More.size (show More w17 w23 from mC); have := HBx0z; omega
  try clear HBx0_22
  try clear HBx0s22
  have q23 : ¬ ((1 : Int) + ((cPointS r : Nat) : Int) < 0) := by omega
  go_wp2_with fail
  go_ret
  exact ⟨rfl, mC⟩
end Go.Proofs.Yteihkhniibncnaa
