/- FnExactAddObstacle returns true, for every input. -/
import Derived.Test.YtnndjbomfcacfaaAdo
import Derived.Test.YtnndjbomfcacfaaSzScene
import Derived.Test.YtnndjbomfcacfaaToScene
import Derived.Test.YtnndjbomfcacfaaEqScene
import Derived.Test.YtnndjbomfcacfaaMkScene
import Derived.Deep.RegionHeld3
namespace Go.Proofs.Ytnndjbomfcacfaa
open Go.RowKit
set_option maxHeartbeats 12800000 in
theorem law_AddObstacle {W : World} (ca0 : Array Value) (s : QScene) (hv0 : tScene.at W ca0.toList s) (v1 : Value) (l : List QV) (hv1 : tVecs.at W [v1] l) :
    Calls Try.prog 3 #[.agg ca0, v1] W fun e w' => e = .returned (.bool true) ∧ More W w' := by
  obtain ⟨s0a4, s0n4, s0c4, s0a5, s0n5, s0c5, s0a6, s0n6, s0c6, es0⟩ := sh_Scene hv0
  rw [es0] at hv0
  obtain rfl := arr_of es0
  clear es0
  have HV0 := Lib.hid hv0; clear hv0
  have HV1 := Lib.hid hv1; clear hv1
  by_cases hn0 : ((wScene s : Nat) : Int) ≤ 1048576
  rotate_left
  · have Hbad := Lib.hid hn0; clear hn0
    have HBa0 : ∀ w', More (W.alloc (.cells #[.int .i64 s.1.1, .int .i64 s.1.2, .int .i64 s.2.1.1, .int .i64 s.2.1.2, .slice s0a4 s0n4 s0c4, .slice s0a5 s0n5 s0c5, .slice s0a6 s0n6 s0c6] 27)) w' → w'.cell? ⟨W.heap.size, 0, none⟩ = some (.int .i64 s.1.1) ∧ w'.cell? ⟨W.heap.size, 1, none⟩ = some (.int .i64 s.1.2) ∧ w'.cell? ⟨W.heap.size, 2, none⟩ = some (.int .i64 s.2.1.1) ∧ w'.cell? ⟨W.heap.size, 3, none⟩ = some (.int .i64 s.2.1.2) ∧ w'.cell? ⟨W.heap.size, 4, none⟩ = some (.slice s0a4 s0n4 s0c4) ∧ w'.cell? ⟨W.heap.size, 5, none⟩ = some (.slice s0a5 s0n5 s0c5) ∧ w'.cell? ⟨W.heap.size, 6, none⟩ = some (.slice s0a6 s0n6 s0c6) := fun w' h => ⟨box_new (by simp) h 0, box_new (by simp) h 1, box_new (by simp) h 2, box_new (by simp) h 3, box_new (by simp) h 4, box_new (by simp) h 5, box_new (by simp) h 6⟩
    go_enter Try.func3, Try.ntmps3
    go_wp2_with fail
    refine (laws_szScene _ s _ _ (Ty.at_more HV0.out mC) (by decide) (by decide)).mono ?_
    rintro e w1 ⟨rfl, b1⟩
    have HBa0_1 := HBa0 w1 mC
    have HBa0s1 : W.heap.size < w1.heap.size := by have := More.size (show More (W.alloc (.cells #[.int .i64 s.1.1, .int .i64 s.1.2, .int .i64 s.2.1.1, .int .i64 s.2.1.2, .slice s0a4 s0n4 s0c4, .slice s0a5 s0n5 s0c5, .slice s0a6 s0n6 s0c6] 27)) w1 from mC); simp at this; omega
    rw [szI_neg (by have := Hbad.out; omega)]
    go_wp2_with fail
    go_ret
    exact ⟨rfl, mC⟩
  by_cases hn1 : ((l.length : Nat) : Int) ≤ 1048576 - (wScene s : Nat)
  rotate_left
  · have Hbad := Lib.hid hn1; clear hn1
    have Hn0 := Lib.hid hn0; clear hn0
    have HBa0 : ∀ w', More (W.alloc (.cells #[.int .i64 s.1.1, .int .i64 s.1.2, .int .i64 s.2.1.1, .int .i64 s.2.1.2, .slice s0a4 s0n4 s0c4, .slice s0a5 s0n5 s0c5, .slice s0a6 s0n6 s0c6] 27)) w' → w'.cell? ⟨W.heap.size, 0, none⟩ = some (.int .i64 s.1.1) ∧ w'.cell? ⟨W.heap.size, 1, none⟩ = some (.int .i64 s.1.2) ∧ w'.cell? ⟨W.heap.size, 2, none⟩ = some (.int .i64 s.2.1.1) ∧ w'.cell? ⟨W.heap.size, 3, none⟩ = some (.int .i64 s.2.1.2) ∧ w'.cell? ⟨W.heap.size, 4, none⟩ = some (.slice s0a4 s0n4 s0c4) ∧ w'.cell? ⟨W.heap.size, 5, none⟩ = some (.slice s0a5 s0n5 s0c5) ∧ w'.cell? ⟨W.heap.size, 6, none⟩ = some (.slice s0a6 s0n6 s0c6) := fun w' h => ⟨box_new (by simp) h 0, box_new (by simp) h 1, box_new (by simp) h 2, box_new (by simp) h 3, box_new (by simp) h 4, box_new (by simp) h 5, box_new (by simp) h 6⟩
    go_enter Try.func3, Try.ntmps3
    go_wp2_with fail
    refine (laws_szScene _ s _ _ (Ty.at_more HV0.out mC) (by decide) (by decide)).mono ?_
    rintro e w1 ⟨rfl, b1⟩
    have HBa0_1 := HBa0 w1 mC
    have HBa0s1 : W.heap.size < w1.heap.size := by have := More.size (show More (W.alloc (.cells #[.int .i64 s.1.1, .int .i64 s.1.2, .int .i64 s.2.1.1, .int .i64 s.2.1.2, .slice s0a4 s0n4 s0c4, .slice s0a5 s0n5 s0c5, .slice s0a6 s0n6 s0c6] 27)) w1 from mC); simp at this; omega
    rw [szI_pos (by have := Hn0.out; omega)]
    have z0 : 0 ≤ (1048576 : Int) - (wScene s : Nat) := by have := Hn0.out; omega
    go_wp2_with fail
    refine (laws_szVecS _ l _ _ (Ty.at_more HV1.out mC) (by have := Hn0.out; omega) (by omega)).mono ?_
    rintro e w2 ⟨rfl, b2⟩
    have HBa0_2 := HBa0 w2 mC
    have HBa0s2 : W.heap.size < w2.heap.size := by have := More.size (show More (W.alloc (.cells #[.int .i64 s.1.1, .int .i64 s.1.2, .int .i64 s.2.1.1, .int .i64 s.2.1.2, .slice s0a4 s0n4 s0c4, .slice s0a5 s0n5 s0c5, .slice s0a6 s0n6 s0c6] 27)) w2 from mC); simp at this; omega
    try clear HBa0_1
    try clear HBa0s1
    rw [szI_neg (by have := Hbad.out; omega)]
    go_wp2_with fail
    go_ret
    exact ⟨rfl, mC⟩
  have Hn0 := Lib.hid hn0
  have Hn1 := Lib.hid hn1
  have Hs0 : Hid (wScene s ≤ 1048576) := Lib.hid (by omega)
  have Hs1 : Hid (l.length ≤ 1048576) := Lib.hid (by omega)
  clear hn0 hn1
  obtain ⟨r, er⟩ : ∃ r, r = addF s l := ⟨_, rfl⟩
  have ER := Lib.hid er
  have HrL : Hid (wScene r ≤ 1048576) := Lib.hid (by rw [er]; exact addF_len s l Hs0.out)
  clear er
  have HrC : Hid (cScene r ≤ 8388608) := Lib.hid (by have h := cScene_le r; have h2 := HrL.out; omega)
  have HC0 : Hid (cScene s ≤ 8388608) := Lib.hid (by have h := cScene_le s; have h2 := Hs0.out; omega)
  have HC1 : Hid (cVecS l ≤ 8388608) := Lib.hid (by have h := cVecS_le l; have h2 := Hs1.out; unfold wVecS at h; omega)
  obtain ⟨f0, ef0⟩ : ∃ f, f = addB s l := ⟨_, rfl⟩
  have EF0 := Lib.hid ef0; clear ef0
  have HBa0 : ∀ w', More (W.alloc (.cells #[.int .i64 s.1.1, .int .i64 s.1.2, .int .i64 s.2.1.1, .int .i64 s.2.1.2, .slice s0a4 s0n4 s0c4, .slice s0a5 s0n5 s0c5, .slice s0a6 s0n6 s0c6] 27)) w' → w'.cell? ⟨W.heap.size, 0, none⟩ = some (.int .i64 s.1.1) ∧ w'.cell? ⟨W.heap.size, 1, none⟩ = some (.int .i64 s.1.2) ∧ w'.cell? ⟨W.heap.size, 2, none⟩ = some (.int .i64 s.2.1.1) ∧ w'.cell? ⟨W.heap.size, 3, none⟩ = some (.int .i64 s.2.1.2) ∧ w'.cell? ⟨W.heap.size, 4, none⟩ = some (.slice s0a4 s0n4 s0c4) ∧ w'.cell? ⟨W.heap.size, 5, none⟩ = some (.slice s0a5 s0n5 s0c5) ∧ w'.cell? ⟨W.heap.size, 6, none⟩ = some (.slice s0a6 s0n6 s0c6) := fun w' h => ⟨box_new (by simp) h 0, box_new (by simp) h 1, box_new (by simp) h 2, box_new (by simp) h 3, box_new (by simp) h 4, box_new (by simp) h 5, box_new (by simp) h 6⟩
  go_enter Try.func3, Try.ntmps3
  go_wp2_with fail
  refine (laws_szScene _ s _ _ (Ty.at_more HV0.out mC) (by decide) (by decide)).mono ?_
  rintro e w1 ⟨rfl, b1⟩
  have HBa0_1 := HBa0 w1 mC
  have HBa0s1 : W.heap.size < w1.heap.size := by have := More.size (show More (W.alloc (.cells #[.int .i64 s.1.1, .int .i64 s.1.2, .int .i64 s.2.1.1, .int .i64 s.2.1.2, .slice s0a4 s0n4 s0c4, .slice s0a5 s0n5 s0c5, .slice s0a6 s0n6 s0c6] 27)) w1 from mC); simp at this; omega
  rw [szI_pos (by have := Hn0.out; omega)]
  have z0 : 0 ≤ (1048576 : Int) - (wScene s : Nat) := by have := Hn0.out; omega
  go_wp2_with fail
  refine (laws_szVecS _ l _ _ (Ty.at_more HV1.out mC) (by have := Hn0.out; omega) (by omega)).mono ?_
  rintro e w2 ⟨rfl, b2⟩
  have HBa0_2 := HBa0 w2 mC
  have HBa0s2 : W.heap.size < w2.heap.size := by have := More.size (show More (W.alloc (.cells #[.int .i64 s.1.1, .int .i64 s.1.2, .int .i64 s.2.1.1, .int .i64 s.2.1.2, .slice s0a4 s0n4 s0c4, .slice s0a5 s0n5 s0c5, .slice s0a6 s0n6 s0c6] 27)) w2 from mC); simp at this; omega
  try clear HBa0_1
  try clear HBa0s1
  rw [szI_pos (by have := Hn1.out; omega)]
  have z1 : 0 ≤ (1048576 : Int) - (wScene s : Nat) - (l.length : Nat) := by have := Hn1.out; omega
  go_wp2_with fail
  refine (laws_toScene _ s _ (Ty.at_more HV0.out mC) Hs0.out).mono ?_
  rintro e w3 ⟨c0, rfl, b3, Fc0⟩
  have HBa0_3 := HBa0 w3 mC
  have HBa0s3 : W.heap.size < w3.heap.size := by have := More.size (show More (W.alloc (.cells #[.int .i64 s.1.1, .int .i64 s.1.2, .int .i64 s.2.1.1, .int .i64 s.2.1.2, .slice s0a4 s0n4 s0c4, .slice s0a5 s0n5 s0c5, .slice s0a6 s0n6 s0c6] 27)) w3 from mC); simp at this; omega
  try clear HBa0_2
  try clear HBa0s2
  obtain ⟨c0za4, c0zn4, c0zc4, c0za5, c0zn5, c0zc5, c0za6, c0zn6, c0zc6, rfl⟩ := sh_Scene (Ty.fresh_at Fc0)
  go_wp2_with fail
  refine (laws_toVecS _ l _ (Ty.at_more HV1.out mC) Hs1.out).mono ?_
  rintro e w4 ⟨c1, rfl, b4, Fc1⟩
  have HBa0_4 := HBa0 w4 mC
  have HBa0s4 : W.heap.size < w4.heap.size := by have := More.size (show More (W.alloc (.cells #[.int .i64 s.1.1, .int .i64 s.1.2, .int .i64 s.2.1.1, .int .i64 s.2.1.2, .slice s0a4 s0n4 s0c4, .slice s0a5 s0n5 s0c5, .slice s0a6 s0n6 s0c6] 27)) w4 from mC); simp at this; omega
  try clear HBa0_3
  try clear HBa0s3
  go_wp2_with fail
  refine (spec_AddObstacleL _ s _ l _ (Ty.at_more (Ty.fresh_at Fc0) mC) (by have h1 := Hs0.out; have h2 := Hn1.out; omega) (Ty.at_more (Ty.fresh_at Fc1) mC)).mono ?_
  rintro e w5 ⟨y, rfl, b5, Fy⟩
  rw [← ER.out] at Fy
  rw [← EF0.out]
  obtain ⟨yra4, yrn4, yrc4, yra5, yrn5, yrc5, yra6, yrn6, yrc6, rfl⟩ := sh_Scene Fy
  have HBa0_5 := HBa0 w5 mC
  have HBa0s5 : W.heap.size < w5.heap.size := by have := More.size (show More (W.alloc (.cells #[.int .i64 s.1.1, .int .i64 s.1.2, .int .i64 s.2.1.1, .int .i64 s.2.1.2, .slice s0a4 s0n4 s0c4, .slice s0a5 s0n5 s0c5, .slice s0a6 s0n6 s0c6] 27)) w5 from mC); simp at this; omega
  try clear HBa0_4
  try clear HBa0s4
  have HBy : ∀ w', More (w5.alloc (.cells #[.int .i64 r.1.1, .int .i64 r.1.2, .int .i64 r.2.1.1, .int .i64 r.2.1.2, .slice yra4 yrn4 yrc4, .slice yra5 yrn5 yrc5, .slice yra6 yrn6 yrc6] 34)) w' → w'.cell? ⟨w5.heap.size, 0, none⟩ = some (.int .i64 r.1.1) ∧ w'.cell? ⟨w5.heap.size, 1, none⟩ = some (.int .i64 r.1.2) ∧ w'.cell? ⟨w5.heap.size, 2, none⟩ = some (.int .i64 r.2.1.1) ∧ w'.cell? ⟨w5.heap.size, 3, none⟩ = some (.int .i64 r.2.1.2) ∧ w'.cell? ⟨w5.heap.size, 4, none⟩ = some (.slice yra4 yrn4 yrc4) ∧ w'.cell? ⟨w5.heap.size, 5, none⟩ = some (.slice yra5 yrn5 yrc5) ∧ w'.cell? ⟨w5.heap.size, 6, none⟩ = some (.slice yra6 yrn6 yrc6) := fun w' h => ⟨box_new (by simp) h 0, box_new (by simp) h 1, box_new (by simp) h 2, box_new (by simp) h 3, box_new (by simp) h 4, box_new (by simp) h 5, box_new (by simp) h 6⟩
  go_wp2_with fail
  refine (laws_toScene _ s _ (Ty.at_more HV0.out mC) Hs0.out).mono ?_
  rintro e w6 ⟨x0, rfl, b6, bx0, X0, nx0, lx0⟩
  have HBa0ltx0 : ∀ k ∈ bx0, W.heap.size < k := fun k hk => Nat.lt_of_lt_of_le (show W.heap.size < ((W.alloc (.cells #[.int .i64 s.1.1, .int .i64 s.1.2, .int .i64 s.2.1.1, .int .i64 s.2.1.2, .slice s0a4 s0n4 s0c4, .slice s0a5 s0n5 s0c5, .slice s0a6 s0n6 s0c6] 27))).heap.size from by simp) (Nat.le_trans (More.size (show More ((W.alloc (.cells #[.int .i64 s.1.1, .int .i64 s.1.2, .int .i64 s.2.1.1, .int .i64 s.2.1.2, .slice s0a4 s0n4 s0c4, .slice s0a5 s0n5 s0c5, .slice s0a6 s0n6 s0c6] 27))) _ from mC)) (lx0 k hk))
  have HByltx0 : ∀ k ∈ bx0, w5.heap.size < k := fun k hk => Nat.lt_of_lt_of_le (show w5.heap.size < ((w5.alloc (.cells #[.int .i64 r.1.1, .int .i64 r.1.2, .int .i64 r.2.1.1, .int .i64 r.2.1.2, .slice yra4 yrn4 yrc4, .slice yra5 yrn5 yrc5, .slice yra6 yrn6 yrc6] 34))).heap.size from by simp) (Nat.le_trans (More.size (show More ((w5.alloc (.cells #[.int .i64 r.1.1, .int .i64 r.1.2, .int .i64 r.2.1.1, .int .i64 r.2.1.2, .slice yra4 yrn4 yrc4, .slice yra5 yrn5 yrc5, .slice yra6 yrn6 yrc6] 34))) _ from mC)) (lx0 k hk))
  obtain ⟨x0za4, x0zn4, x0zc4, x0za5, x0zn5, x0zc5, x0za6, x0zn6, x0zc6, rfl⟩ := sh_Scene (Ty.rd_at (tScene.own_rd X0))
  have HBa0_6 := HBa0 w6 mC
  have HBa0s6 : W.heap.size < w6.heap.size := by have := More.size (show More (W.alloc (.cells #[.int .i64 s.1.1, .int .i64 s.1.2, .int .i64 s.2.1.1, .int .i64 s.2.1.2, .slice s0a4 s0n4 s0c4, .slice s0a5 s0n5 s0c5, .slice s0a6 s0n6 s0c6] 27)) w6 from mC); simp at this; omega
  try clear HBa0_5
  try clear HBa0s5
  have HBy_6 := HBy w6 mC
  have HBys6 : w5.heap.size < w6.heap.size := by have := More.size (show More (w5.alloc (.cells #[.int .i64 r.1.1, .int .i64 r.1.2, .int .i64 r.2.1.1, .int .i64 r.2.1.2, .slice yra4 yrn4 yrc4, .slice yra5 yrn5 yrc5, .slice yra6 yrn6 yrc6] 34)) w6 from mC); simp at this; omega
  try clear HBy_5
  try clear HBys5
  have HBx0 : ∀ w', More (w6.alloc (.cells #[.int .i64 s.1.1, .int .i64 s.1.2, .int .i64 s.2.1.1, .int .i64 s.2.1.2, .slice x0za4 x0zn4 x0zc4, .slice x0za5 x0zn5 x0zc5, .slice x0za6 x0zn6 x0zc6] 34)) w' → w'.cell? ⟨w6.heap.size, 0, none⟩ = some (.int .i64 s.1.1) ∧ w'.cell? ⟨w6.heap.size, 1, none⟩ = some (.int .i64 s.1.2) ∧ w'.cell? ⟨w6.heap.size, 2, none⟩ = some (.int .i64 s.2.1.1) ∧ w'.cell? ⟨w6.heap.size, 3, none⟩ = some (.int .i64 s.2.1.2) ∧ w'.cell? ⟨w6.heap.size, 4, none⟩ = some (.slice x0za4 x0zn4 x0zc4) ∧ w'.cell? ⟨w6.heap.size, 5, none⟩ = some (.slice x0za5 x0zn5 x0zc5) ∧ w'.cell? ⟨w6.heap.size, 6, none⟩ = some (.slice x0za6 x0zn6 x0zc6) := fun w' h => ⟨box_new (by simp) h 0, box_new (by simp) h 1, box_new (by simp) h 2, box_new (by simp) h 3, box_new (by simp) h 4, box_new (by simp) h 5, box_new (by simp) h 6⟩
  have HBx0gex0 : w6.heap.size ≤ w6.heap.size := by have := More.size (show More w6 w6 from mC); omega
  go_wp2_with fail
  refine (laws_toVecS _ l _ (Ty.at_more HV1.out mC) Hs1.out).mono ?_
  rintro e w7 ⟨x1, rfl, b7, bx1, X1, nx1, lx1⟩
  have HBa0ltx1 : ∀ k ∈ bx1, W.heap.size < k := fun k hk => Nat.lt_of_lt_of_le (show W.heap.size < ((W.alloc (.cells #[.int .i64 s.1.1, .int .i64 s.1.2, .int .i64 s.2.1.1, .int .i64 s.2.1.2, .slice s0a4 s0n4 s0c4, .slice s0a5 s0n5 s0c5, .slice s0a6 s0n6 s0c6] 27))).heap.size from by simp) (Nat.le_trans (More.size (show More ((W.alloc (.cells #[.int .i64 s.1.1, .int .i64 s.1.2, .int .i64 s.2.1.1, .int .i64 s.2.1.2, .slice s0a4 s0n4 s0c4, .slice s0a5 s0n5 s0c5, .slice s0a6 s0n6 s0c6] 27))) _ from mC)) (lx1 k hk))
  have HByltx1 : ∀ k ∈ bx1, w5.heap.size < k := fun k hk => Nat.lt_of_lt_of_le (show w5.heap.size < ((w5.alloc (.cells #[.int .i64 r.1.1, .int .i64 r.1.2, .int .i64 r.2.1.1, .int .i64 r.2.1.2, .slice yra4 yrn4 yrc4, .slice yra5 yrn5 yrc5, .slice yra6 yrn6 yrc6] 34))).heap.size from by simp) (Nat.le_trans (More.size (show More ((w5.alloc (.cells #[.int .i64 r.1.1, .int .i64 r.1.2, .int .i64 r.2.1.1, .int .i64 r.2.1.2, .slice yra4 yrn4 yrc4, .slice yra5 yrn5 yrc5, .slice yra6 yrn6 yrc6] 34))) _ from mC)) (lx1 k hk))
  have HBx0ltx1 : ∀ k ∈ bx1, w6.heap.size < k := fun k hk => Nat.lt_of_lt_of_le (show w6.heap.size < ((w6.alloc (.cells #[.int .i64 s.1.1, .int .i64 s.1.2, .int .i64 s.2.1.1, .int .i64 s.2.1.2, .slice x0za4 x0zn4 x0zc4, .slice x0za5 x0zn5 x0zc5, .slice x0za6 x0zn6 x0zc6] 34))).heap.size from by simp) (Nat.le_trans (More.size (show More ((w6.alloc (.cells #[.int .i64 s.1.1, .int .i64 s.1.2, .int .i64 s.2.1.1, .int .i64 s.2.1.2, .slice x0za4 x0zn4 x0zc4, .slice x0za5 x0zn5 x0zc5, .slice x0za6 x0zn6 x0zc6] 34))) _ from mC)) (lx1 k hk))
  have lx1_x0 : ∀ k ∈ bx1, w6.heap.size ≤ k := fun k hk => Nat.le_trans (More.size (show More w6 _ from mC)) (lx1 k hk)
  have HBa0_7 := HBa0 w7 mC
  have HBa0s7 : W.heap.size < w7.heap.size := by have := More.size (show More (W.alloc (.cells #[.int .i64 s.1.1, .int .i64 s.1.2, .int .i64 s.2.1.1, .int .i64 s.2.1.2, .slice s0a4 s0n4 s0c4, .slice s0a5 s0n5 s0c5, .slice s0a6 s0n6 s0c6] 27)) w7 from mC); simp at this; omega
  try clear HBa0_6
  try clear HBa0s6
  have HBy_7 := HBy w7 mC
  have HBys7 : w5.heap.size < w7.heap.size := by have := More.size (show More (w5.alloc (.cells #[.int .i64 r.1.1, .int .i64 r.1.2, .int .i64 r.2.1.1, .int .i64 r.2.1.2, .slice yra4 yrn4 yrc4, .slice yra5 yrn5 yrc5, .slice yra6 yrn6 yrc6] 34)) w7 from mC); simp at this; omega
  try clear HBy_6
  try clear HBys6
  have HBx0_7 := HBx0 w7 mC
  have HBx0s7 : w6.heap.size < w7.heap.size := by have := More.size (show More (w6.alloc (.cells #[.int .i64 s.1.1, .int .i64 s.1.2, .int .i64 s.2.1.1, .int .i64 s.2.1.2, .slice x0za4 x0zn4 x0zc4, .slice x0za5 x0zn5 x0zc5, .slice x0za6 x0zn6 x0zc6] 34)) w7 from mC); simp at this; omega
  try clear HBx0_6
  try clear HBx0s6
  go_wp2_with fail
  refine (impl_AddObstacleL _ s _ l _ (Ty.at_more (Ty.rd_at (tScene.own_rd X0)) mC) (by have h1 := Hs0.out; have h2 := Hn1.out; omega) (Ty.at_more (Ty.rd_at (tVecs.own_rd X1)) mC)).mono ?_
  rintro e w8 ⟨g, rfl, b8, bg, G, ng, lg⟩
  rw [← ER.out] at G
  rw [← EF0.out]
  obtain ⟨gra4, grn4, grc4, gra5, grn5, grc5, gra6, grn6, grc6, rfl⟩ := sh_Scene (Ty.rd_at (tScene.own_rd G))
  have HBa0_8 := HBa0 w8 mC
  have HBa0s8 : W.heap.size < w8.heap.size := by have := More.size (show More (W.alloc (.cells #[.int .i64 s.1.1, .int .i64 s.1.2, .int .i64 s.2.1.1, .int .i64 s.2.1.2, .slice s0a4 s0n4 s0c4, .slice s0a5 s0n5 s0c5, .slice s0a6 s0n6 s0c6] 27)) w8 from mC); simp at this; omega
  try clear HBa0_7
  try clear HBa0s7
  have HBy_8 := HBy w8 mC
  have HBys8 : w5.heap.size < w8.heap.size := by have := More.size (show More (w5.alloc (.cells #[.int .i64 r.1.1, .int .i64 r.1.2, .int .i64 r.2.1.1, .int .i64 r.2.1.2, .slice yra4 yrn4 yrc4, .slice yra5 yrn5 yrc5, .slice yra6 yrn6 yrc6] 34)) w8 from mC); simp at this; omega
  try clear HBy_7
  try clear HBys7
  have HBx0_8 := HBx0 w8 mC
  have HBx0s8 : w6.heap.size < w8.heap.size := by have := More.size (show More (w6.alloc (.cells #[.int .i64 s.1.1, .int .i64 s.1.2, .int .i64 s.2.1.1, .int .i64 s.2.1.2, .slice x0za4 x0zn4 x0zc4, .slice x0za5 x0zn5 x0zc5, .slice x0za6 x0zn6 x0zc6] 34)) w8 from mC); simp at this; omega
  try clear HBx0_7
  try clear HBx0s7
  have HBa0ltg : ∀ k ∈ bg, W.heap.size < k := fun k hk => Nat.lt_of_lt_of_le (show W.heap.size < ((W.alloc (.cells #[.int .i64 s.1.1, .int .i64 s.1.2, .int .i64 s.2.1.1, .int .i64 s.2.1.2, .slice s0a4 s0n4 s0c4, .slice s0a5 s0n5 s0c5, .slice s0a6 s0n6 s0c6] 27))).heap.size from by simp) (Nat.le_trans (More.size (show More ((W.alloc (.cells #[.int .i64 s.1.1, .int .i64 s.1.2, .int .i64 s.2.1.1, .int .i64 s.2.1.2, .slice s0a4 s0n4 s0c4, .slice s0a5 s0n5 s0c5, .slice s0a6 s0n6 s0c6] 27))) _ from mC)) (lg k hk))
  have HByltg : ∀ k ∈ bg, w5.heap.size < k := fun k hk => Nat.lt_of_lt_of_le (show w5.heap.size < ((w5.alloc (.cells #[.int .i64 r.1.1, .int .i64 r.1.2, .int .i64 r.2.1.1, .int .i64 r.2.1.2, .slice yra4 yrn4 yrc4, .slice yra5 yrn5 yrc5, .slice yra6 yrn6 yrc6] 34))).heap.size from by simp) (Nat.le_trans (More.size (show More ((w5.alloc (.cells #[.int .i64 r.1.1, .int .i64 r.1.2, .int .i64 r.2.1.1, .int .i64 r.2.1.2, .slice yra4 yrn4 yrc4, .slice yra5 yrn5 yrc5, .slice yra6 yrn6 yrc6] 34))) _ from mC)) (lg k hk))
  have HBx0ltg : ∀ k ∈ bg, w6.heap.size < k := fun k hk => Nat.lt_of_lt_of_le (show w6.heap.size < ((w6.alloc (.cells #[.int .i64 s.1.1, .int .i64 s.1.2, .int .i64 s.2.1.1, .int .i64 s.2.1.2, .slice x0za4 x0zn4 x0zc4, .slice x0za5 x0zn5 x0zc5, .slice x0za6 x0zn6 x0zc6] 34))).heap.size from by simp) (Nat.le_trans (More.size (show More ((w6.alloc (.cells #[.int .i64 s.1.1, .int .i64 s.1.2, .int .i64 s.2.1.1, .int .i64 s.2.1.2, .slice x0za4 x0zn4 x0zc4, .slice x0za5 x0zn5 x0zc5, .slice x0za6 x0zn6 x0zc6] 34))) _ from mC)) (lg k hk))
  have lg_x0 : ∀ k ∈ bg, w6.heap.size ≤ k := fun k hk => Nat.le_trans (More.size (show More w6 _ from mC)) (lg k hk)
  have lg_x1 : ∀ k ∈ bg, w7.heap.size ≤ k := fun k hk => Nat.le_trans (More.size (show More w7 _ from mC)) (lg k hk)
  have HBg : ∀ w', More (w8.alloc (.cells #[.int .i64 r.1.1, .int .i64 r.1.2, .int .i64 r.2.1.1, .int .i64 r.2.1.2, .slice gra4 grn4 grc4, .slice gra5 grn5 grc5, .slice gra6 grn6 grc6] 34)) w' → w'.cell? ⟨w8.heap.size, 0, none⟩ = some (.int .i64 r.1.1) ∧ w'.cell? ⟨w8.heap.size, 1, none⟩ = some (.int .i64 r.1.2) ∧ w'.cell? ⟨w8.heap.size, 2, none⟩ = some (.int .i64 r.2.1.1) ∧ w'.cell? ⟨w8.heap.size, 3, none⟩ = some (.int .i64 r.2.1.2) ∧ w'.cell? ⟨w8.heap.size, 4, none⟩ = some (.slice gra4 grn4 grc4) ∧ w'.cell? ⟨w8.heap.size, 5, none⟩ = some (.slice gra5 grn5 grc5) ∧ w'.cell? ⟨w8.heap.size, 6, none⟩ = some (.slice gra6 grn6 grc6) := fun w' h => ⟨box_new (by simp) h 0, box_new (by simp) h 1, box_new (by simp) h 2, box_new (by simp) h 3, box_new (by simp) h 4, box_new (by simp) h 5, box_new (by simp) h 6⟩
  have HBggex0 : w6.heap.size ≤ w8.heap.size := by have := More.size (show More w6 w8 from mC); omega
  have HBggex1 : w7.heap.size ≤ w8.heap.size := by have := More.size (show More w7 w8 from mC); omega
  have HBggeg : w8.heap.size ≤ w8.heap.size := by have := More.size (show More w8 w8 from mC); omega
  go_wp2_with fail
  refine (laws_eqScene _ _ r _ (Ty.at_more (Ty.rd_at (tScene.own_rd G)) mC) (Ty.at_more Fy mC) HrL.out).mono ?_
  rintro e w9 ⟨rfl, b9⟩
  have HBa0_9 := HBa0 w9 mC
  have HBa0s9 : W.heap.size < w9.heap.size := by have := More.size (show More (W.alloc (.cells #[.int .i64 s.1.1, .int .i64 s.1.2, .int .i64 s.2.1.1, .int .i64 s.2.1.2, .slice s0a4 s0n4 s0c4, .slice s0a5 s0n5 s0c5, .slice s0a6 s0n6 s0c6] 27)) w9 from mC); simp at this; omega
  try clear HBa0_8
  try clear HBa0s8
  have HBy_9 := HBy w9 mC
  have HBys9 : w5.heap.size < w9.heap.size := by have := More.size (show More (w5.alloc (.cells #[.int .i64 r.1.1, .int .i64 r.1.2, .int .i64 r.2.1.1, .int .i64 r.2.1.2, .slice yra4 yrn4 yrc4, .slice yra5 yrn5 yrc5, .slice yra6 yrn6 yrc6] 34)) w9 from mC); simp at this; omega
  try clear HBy_8
  try clear HBys8
  have HBx0_9 := HBx0 w9 mC
  have HBx0s9 : w6.heap.size < w9.heap.size := by have := More.size (show More (w6.alloc (.cells #[.int .i64 s.1.1, .int .i64 s.1.2, .int .i64 s.2.1.1, .int .i64 s.2.1.2, .slice x0za4 x0zn4 x0zc4, .slice x0za5 x0zn5 x0zc5, .slice x0za6 x0zn6 x0zc6] 34)) w9 from mC); simp at this; omega
  try clear HBx0_8
  try clear HBx0s8
  have HBg_9 := HBg w9 mC
  have HBgs9 : w8.heap.size < w9.heap.size := by have := More.size (show More (w8.alloc (.cells #[.int .i64 r.1.1, .int .i64 r.1.2, .int .i64 r.2.1.1, .int .i64 r.2.1.2, .slice gra4 grn4 grc4, .slice gra5 grn5 grc5, .slice gra6 grn6 grc6] 34)) w9 from mC); simp at this; omega
  try clear HBg_8
  try clear HBgs8
  go_wp2_with fail
  have RHBa0 := fun (w' : World) (h : More w9 w') => HBa0 w' (More.trans (show More ((W.alloc (.cells #[.int .i64 s.1.1, .int .i64 s.1.2, .int .i64 s.2.1.1, .int .i64 s.2.1.2, .slice s0a4 s0n4 s0c4, .slice s0a5 s0n5 s0c5, .slice s0a6 s0n6 s0c6] 27))) w9 from mC) h)
  clear HBa0_9
  have RHBy := fun (w' : World) (h : More w9 w') => HBy w' (More.trans (show More ((w5.alloc (.cells #[.int .i64 r.1.1, .int .i64 r.1.2, .int .i64 r.2.1.1, .int .i64 r.2.1.2, .slice yra4 yrn4 yrc4, .slice yra5 yrn5 yrc5, .slice yra6 yrn6 yrc6] 34))) w9 from mC) h)
  clear HBy_9
  have RHBx0 := fun (w' : World) (h : More w9 w') => HBx0 w' (More.trans (show More ((w6.alloc (.cells #[.int .i64 s.1.1, .int .i64 s.1.2, .int .i64 s.2.1.1, .int .i64 s.2.1.2, .slice x0za4 x0zn4 x0zc4, .slice x0za5 x0zn5 x0zc5, .slice x0za6 x0zn6 x0zc6] 34))) w9 from mC) h)
  clear HBx0_9
  have RHBg := fun (w' : World) (h : More w9 w') => HBg w' (More.trans (show More ((w8.alloc (.cells #[.int .i64 r.1.1, .int .i64 r.1.2, .int .i64 r.2.1.1, .int .i64 r.2.1.2, .slice gra4 grn4 grc4, .slice gra5 grn5 grc5, .slice gra6 grn6 grc6] 34))) w9 from mC) h)
  clear HBg_9
  go_region_held3 (fun w' => More w9 w') (first | exact More.refl _ | exact mC) (first | (go_at_call 8; (with_reducible refine (laws_toScene _ s _ (Ty.at_more HV0.out mC) Hs0.out).mono ?_); rintro e w10 ⟨t0, rfl, b10, Ft0⟩; obtain ⟨t0za4, t0zn4, t0zc4, t0za5, t0zn5, t0zc5, t0za6, t0zn6, t0zc6, rfl⟩ := sh_Scene (Ty.fresh_at Ft0)) | (go_at_call 11; (with_reducible refine (laws_eqScene _ _ s _ (Ty.at_more (Ty.rd_at (tScene.own_rd X0)) mC) (Ty.at_more (Ty.fresh_at Ft0) (Turns.more (by ((repeat (first | (with_reducible apply Turns.drew) | (with_reducible apply Turns.drewN) | (with_reducible apply Turns.alloc))); exact Turns.refl _ _)))) Hs0.out).mono ?_); rintro e w11 ⟨rfl, b11⟩))
  clear RHBa0
  clear RHBy
  clear RHBx0
  clear RHBg
  have HBa0_11 := HBa0 w11 mC
  have HBa0s11 : W.heap.size < w11.heap.size := by have := More.size (show More (W.alloc (.cells #[.int .i64 s.1.1, .int .i64 s.1.2, .int .i64 s.2.1.1, .int .i64 s.2.1.2, .slice s0a4 s0n4 s0c4, .slice s0a5 s0n5 s0c5, .slice s0a6 s0n6 s0c6] 27)) w11 from mC); simp at this; omega
  try clear HBa0_10
  try clear HBa0s10
  have HBy_11 := HBy w11 mC
  have HBys11 : w5.heap.size < w11.heap.size := by have := More.size (show More (w5.alloc (.cells #[.int .i64 r.1.1, .int .i64 r.1.2, .int .i64 r.2.1.1, .int .i64 r.2.1.2, .slice yra4 yrn4 yrc4, .slice yra5 yrn5 yrc5, .slice yra6 yrn6 yrc6] 34)) w11 from mC); simp at this; omega
  try clear HBy_10
  try clear HBys10
  have HBx0_11 := HBx0 w11 mC
  have HBx0s11 : w6.heap.size < w11.heap.size := by have := More.size (show More (w6.alloc (.cells #[.int .i64 s.1.1, .int .i64 s.1.2, .int .i64 s.2.1.1, .int .i64 s.2.1.2, .slice x0za4 x0zn4 x0zc4, .slice x0za5 x0zn5 x0zc5, .slice x0za6 x0zn6 x0zc6] 34)) w11 from mC); simp at this; omega
  try clear HBx0_10
  try clear HBx0s10
  have HBg_11 := HBg w11 mC
  have HBgs11 : w8.heap.size < w11.heap.size := by have := More.size (show More (w8.alloc (.cells #[.int .i64 r.1.1, .int .i64 r.1.2, .int .i64 r.2.1.1, .int .i64 r.2.1.2, .slice gra4 grn4 grc4, .slice gra5 grn5 grc5, .slice gra6 grn6 grc6] 34)) w11 from mC); simp at this; omega
  try clear HBg_10
  try clear HBgs10
  go_wp2_with fail
  refine (laws_toVecS _ l _ (Ty.at_more HV1.out mC) Hs1.out).mono ?_
  rintro e w12 ⟨t1, rfl, b12, Ft1⟩
  have HBa0_12 := HBa0 w12 mC
  have HBa0s12 : W.heap.size < w12.heap.size := by have := More.size (show More (W.alloc (.cells #[.int .i64 s.1.1, .int .i64 s.1.2, .int .i64 s.2.1.1, .int .i64 s.2.1.2, .slice s0a4 s0n4 s0c4, .slice s0a5 s0n5 s0c5, .slice s0a6 s0n6 s0c6] 27)) w12 from mC); simp at this; omega
  try clear HBa0_11
  try clear HBa0s11
  have HBy_12 := HBy w12 mC
  have HBys12 : w5.heap.size < w12.heap.size := by have := More.size (show More (w5.alloc (.cells #[.int .i64 r.1.1, .int .i64 r.1.2, .int .i64 r.2.1.1, .int .i64 r.2.1.2, .slice yra4 yrn4 yrc4, .slice yra5 yrn5 yrc5, .slice yra6 yrn6 yrc6] 34)) w12 from mC); simp at this; omega
  try clear HBy_11
  try clear HBys11
  have HBx0_12 := HBx0 w12 mC
  have HBx0s12 : w6.heap.size < w12.heap.size := by have := More.size (show More (w6.alloc (.cells #[.int .i64 s.1.1, .int .i64 s.1.2, .int .i64 s.2.1.1, .int .i64 s.2.1.2, .slice x0za4 x0zn4 x0zc4, .slice x0za5 x0zn5 x0zc5, .slice x0za6 x0zn6 x0zc6] 34)) w12 from mC); simp at this; omega
  try clear HBx0_11
  try clear HBx0s11
  have HBg_12 := HBg w12 mC
  have HBgs12 : w8.heap.size < w12.heap.size := by have := More.size (show More (w8.alloc (.cells #[.int .i64 r.1.1, .int .i64 r.1.2, .int .i64 r.2.1.1, .int .i64 r.2.1.2, .slice gra4 grn4 grc4, .slice gra5 grn5 grc5, .slice gra6 grn6 grc6] 34)) w12 from mC); simp at this; omega
  try clear HBg_11
  try clear HBgs11
  go_wp2_with fail
  refine (laws_eqVecS _ _ l _ (Ty.at_more (Ty.rd_at (tVecs.own_rd X1)) mC) (Ty.at_more (Ty.fresh_at Ft1) mC) (by have := Hs1.out; omega)).mono ?_
  rintro e w13 ⟨rfl, b13⟩
  have HBa0_13 := HBa0 w13 mC
  have HBa0s13 : W.heap.size < w13.heap.size := by have := More.size (show More (W.alloc (.cells #[.int .i64 s.1.1, .int .i64 s.1.2, .int .i64 s.2.1.1, .int .i64 s.2.1.2, .slice s0a4 s0n4 s0c4, .slice s0a5 s0n5 s0c5, .slice s0a6 s0n6 s0c6] 27)) w13 from mC); simp at this; omega
  try clear HBa0_12
  try clear HBa0s12
  have HBy_13 := HBy w13 mC
  have HBys13 : w5.heap.size < w13.heap.size := by have := More.size (show More (w5.alloc (.cells #[.int .i64 r.1.1, .int .i64 r.1.2, .int .i64 r.2.1.1, .int .i64 r.2.1.2, .slice yra4 yrn4 yrc4, .slice yra5 yrn5 yrc5, .slice yra6 yrn6 yrc6] 34)) w13 from mC); simp at this; omega
  try clear HBy_12
  try clear HBys12
  have HBx0_13 := HBx0 w13 mC
  have HBx0s13 : w6.heap.size < w13.heap.size := by have := More.size (show More (w6.alloc (.cells #[.int .i64 s.1.1, .int .i64 s.1.2, .int .i64 s.2.1.1, .int .i64 s.2.1.2, .slice x0za4 x0zn4 x0zc4, .slice x0za5 x0zn5 x0zc5, .slice x0za6 x0zn6 x0zc6] 34)) w13 from mC); simp at this; omega
  try clear HBx0_12
  try clear HBx0s12
  have HBg_13 := HBg w13 mC
  have HBgs13 : w8.heap.size < w13.heap.size := by have := More.size (show More (w8.alloc (.cells #[.int .i64 r.1.1, .int .i64 r.1.2, .int .i64 r.2.1.1, .int .i64 r.2.1.2, .slice gra4 grn4 grc4, .slice gra5 grn5 grc5, .slice gra6 grn6 grc6] 34)) w13 from mC); simp at this; omega
  try clear HBg_12
  try clear HBgs12
  go_wp2_with fail
  refine (laws_markScene_ bx0 _ s _ _ (Ty.own_more X0 mC) nx0 (by omega) (by have := HC0.out; omega) Hs0.out).mono ?_
  rintro e w14 ⟨rfl, T14, M14⟩
  have x1o14 := Ty.own_turns (Ty.own_more X1 mC) T14 (fun k hk hk' => by have h1 := lx1_x0 k hk; have h2 := tScene.own_lt X0 k hk'; omega)
  have go14 := Ty.own_turns (Ty.own_more G mC) T14 (fun k hk hk' => by have h1 := lg_x0 k hk; have h2 := tScene.own_lt X0 k hk'; omega)
  have HBa0z' : W.heap.size < w14.heap.size := Nat.lt_of_lt_of_le (Nat.lt_of_lt_of_le (show W.heap.size < ((W.alloc (.cells #[.int .i64 s.1.1, .int .i64 s.1.2, .int .i64 s.2.1.1, .int .i64 s.2.1.2, .slice s0a4 s0n4 s0c4, .slice s0a5 s0n5 s0c5, .slice s0a6 s0n6 s0c6] 27))).heap.size from by simp) (More.size (show More ((W.alloc (.cells #[.int .i64 s.1.1, .int .i64 s.1.2, .int .i64 s.2.1.1, .int .i64 s.2.1.2, .slice s0a4 s0n4 s0c4, .slice s0a5 s0n5 s0c5, .slice s0a6 s0n6 s0c6] 27))) _ from mC))) T14.size
  have HBa0k : w14.cell? ⟨W.heap.size, 0, none⟩ = some (.int .i64 s.1.1) ∧ w14.cell? ⟨W.heap.size, 1, none⟩ = some (.int .i64 s.1.2) ∧ w14.cell? ⟨W.heap.size, 2, none⟩ = some (.int .i64 s.2.1.1) ∧ w14.cell? ⟨W.heap.size, 3, none⟩ = some (.int .i64 s.2.1.2) ∧ w14.cell? ⟨W.heap.size, 4, none⟩ = some (.slice s0a4 s0n4 s0c4) ∧ w14.cell? ⟨W.heap.size, 5, none⟩ = some (.slice s0a5 s0n5 s0c5) ∧ w14.cell? ⟨W.heap.size, 6, none⟩ = some (.slice s0a6 s0n6 s0c6) := ⟨turn_cell T14 (Nat.lt_of_lt_of_le (show W.heap.size < ((W.alloc (.cells #[.int .i64 s.1.1, .int .i64 s.1.2, .int .i64 s.2.1.1, .int .i64 s.2.1.2, .slice s0a4 s0n4 s0c4, .slice s0a5 s0n5 s0c5, .slice s0a6 s0n6 s0c6] 27))).heap.size from by simp) (More.size (show More ((W.alloc (.cells #[.int .i64 s.1.1, .int .i64 s.1.2, .int .i64 s.2.1.1, .int .i64 s.2.1.2, .slice s0a4 s0n4 s0c4, .slice s0a5 s0n5 s0c5, .slice s0a6 s0n6 s0c6] 27))) _ from mC))) (fun h => by have h1 := HBa0ltx0 _ h; omega) (HBa0 _ mC).1, turn_cell T14 (Nat.lt_of_lt_of_le (show W.heap.size < ((W.alloc (.cells #[.int .i64 s.1.1, .int .i64 s.1.2, .int .i64 s.2.1.1, .int .i64 s.2.1.2, .slice s0a4 s0n4 s0c4, .slice s0a5 s0n5 s0c5, .slice s0a6 s0n6 s0c6] 27))).heap.size from by simp) (More.size (show More ((W.alloc (.cells #[.int .i64 s.1.1, .int .i64 s.1.2, .int .i64 s.2.1.1, .int .i64 s.2.1.2, .slice s0a4 s0n4 s0c4, .slice s0a5 s0n5 s0c5, .slice s0a6 s0n6 s0c6] 27))) _ from mC))) (fun h => by have h1 := HBa0ltx0 _ h; omega) (HBa0 _ mC).2.1, turn_cell T14 (Nat.lt_of_lt_of_le (show W.heap.size < ((W.alloc (.cells #[.int .i64 s.1.1, .int .i64 s.1.2, .int .i64 s.2.1.1, .int .i64 s.2.1.2, .slice s0a4 s0n4 s0c4, .slice s0a5 s0n5 s0c5, .slice s0a6 s0n6 s0c6] 27))).heap.size from by simp) (More.size (show More ((W.alloc (.cells #[.int .i64 s.1.1, .int .i64 s.1.2, .int .i64 s.2.1.1, .int .i64 s.2.1.2, .slice s0a4 s0n4 s0c4, .slice s0a5 s0n5 s0c5, .slice s0a6 s0n6 s0c6] 27))) _ from mC))) (fun h => by have h1 := HBa0ltx0 _ h; omega) (HBa0 _ mC).2.2.1, turn_cell T14 (Nat.lt_of_lt_of_le (show W.heap.size < ((W.alloc (.cells #[.int .i64 s.1.1, .int .i64 s.1.2, .int .i64 s.2.1.1, .int .i64 s.2.1.2, .slice s0a4 s0n4 s0c4, .slice s0a5 s0n5 s0c5, .slice s0a6 s0n6 s0c6] 27))).heap.size from by simp) (More.size (show More ((W.alloc (.cells #[.int .i64 s.1.1, .int .i64 s.1.2, .int .i64 s.2.1.1, .int .i64 s.2.1.2, .slice s0a4 s0n4 s0c4, .slice s0a5 s0n5 s0c5, .slice s0a6 s0n6 s0c6] 27))) _ from mC))) (fun h => by have h1 := HBa0ltx0 _ h; omega) (HBa0 _ mC).2.2.2.1, turn_cell T14 (Nat.lt_of_lt_of_le (show W.heap.size < ((W.alloc (.cells #[.int .i64 s.1.1, .int .i64 s.1.2, .int .i64 s.2.1.1, .int .i64 s.2.1.2, .slice s0a4 s0n4 s0c4, .slice s0a5 s0n5 s0c5, .slice s0a6 s0n6 s0c6] 27))).heap.size from by simp) (More.size (show More ((W.alloc (.cells #[.int .i64 s.1.1, .int .i64 s.1.2, .int .i64 s.2.1.1, .int .i64 s.2.1.2, .slice s0a4 s0n4 s0c4, .slice s0a5 s0n5 s0c5, .slice s0a6 s0n6 s0c6] 27))) _ from mC))) (fun h => by have h1 := HBa0ltx0 _ h; omega) (HBa0 _ mC).2.2.2.2.1, turn_cell T14 (Nat.lt_of_lt_of_le (show W.heap.size < ((W.alloc (.cells #[.int .i64 s.1.1, .int .i64 s.1.2, .int .i64 s.2.1.1, .int .i64 s.2.1.2, .slice s0a4 s0n4 s0c4, .slice s0a5 s0n5 s0c5, .slice s0a6 s0n6 s0c6] 27))).heap.size from by simp) (More.size (show More ((W.alloc (.cells #[.int .i64 s.1.1, .int .i64 s.1.2, .int .i64 s.2.1.1, .int .i64 s.2.1.2, .slice s0a4 s0n4 s0c4, .slice s0a5 s0n5 s0c5, .slice s0a6 s0n6 s0c6] 27))) _ from mC))) (fun h => by have h1 := HBa0ltx0 _ h; omega) (HBa0 _ mC).2.2.2.2.2.1, turn_cell T14 (Nat.lt_of_lt_of_le (show W.heap.size < ((W.alloc (.cells #[.int .i64 s.1.1, .int .i64 s.1.2, .int .i64 s.2.1.1, .int .i64 s.2.1.2, .slice s0a4 s0n4 s0c4, .slice s0a5 s0n5 s0c5, .slice s0a6 s0n6 s0c6] 27))).heap.size from by simp) (More.size (show More ((W.alloc (.cells #[.int .i64 s.1.1, .int .i64 s.1.2, .int .i64 s.2.1.1, .int .i64 s.2.1.2, .slice s0a4 s0n4 s0c4, .slice s0a5 s0n5 s0c5, .slice s0a6 s0n6 s0c6] 27))) _ from mC))) (fun h => by have h1 := HBa0ltx0 _ h; omega) (HBa0 _ mC).2.2.2.2.2.2⟩
  have HByz' : w5.heap.size < w14.heap.size := Nat.lt_of_lt_of_le (Nat.lt_of_lt_of_le (show w5.heap.size < ((w5.alloc (.cells #[.int .i64 r.1.1, .int .i64 r.1.2, .int .i64 r.2.1.1, .int .i64 r.2.1.2, .slice yra4 yrn4 yrc4, .slice yra5 yrn5 yrc5, .slice yra6 yrn6 yrc6] 34))).heap.size from by simp) (More.size (show More ((w5.alloc (.cells #[.int .i64 r.1.1, .int .i64 r.1.2, .int .i64 r.2.1.1, .int .i64 r.2.1.2, .slice yra4 yrn4 yrc4, .slice yra5 yrn5 yrc5, .slice yra6 yrn6 yrc6] 34))) _ from mC))) T14.size
  have HByk : w14.cell? ⟨w5.heap.size, 0, none⟩ = some (.int .i64 r.1.1) ∧ w14.cell? ⟨w5.heap.size, 1, none⟩ = some (.int .i64 r.1.2) ∧ w14.cell? ⟨w5.heap.size, 2, none⟩ = some (.int .i64 r.2.1.1) ∧ w14.cell? ⟨w5.heap.size, 3, none⟩ = some (.int .i64 r.2.1.2) ∧ w14.cell? ⟨w5.heap.size, 4, none⟩ = some (.slice yra4 yrn4 yrc4) ∧ w14.cell? ⟨w5.heap.size, 5, none⟩ = some (.slice yra5 yrn5 yrc5) ∧ w14.cell? ⟨w5.heap.size, 6, none⟩ = some (.slice yra6 yrn6 yrc6) := ⟨turn_cell T14 (Nat.lt_of_lt_of_le (show w5.heap.size < ((w5.alloc (.cells #[.int .i64 r.1.1, .int .i64 r.1.2, .int .i64 r.2.1.1, .int .i64 r.2.1.2, .slice yra4 yrn4 yrc4, .slice yra5 yrn5 yrc5, .slice yra6 yrn6 yrc6] 34))).heap.size from by simp) (More.size (show More ((w5.alloc (.cells #[.int .i64 r.1.1, .int .i64 r.1.2, .int .i64 r.2.1.1, .int .i64 r.2.1.2, .slice yra4 yrn4 yrc4, .slice yra5 yrn5 yrc5, .slice yra6 yrn6 yrc6] 34))) _ from mC))) (fun h => by have h1 := HByltx0 _ h; omega) (HBy _ mC).1, turn_cell T14 (Nat.lt_of_lt_of_le (show w5.heap.size < ((w5.alloc (.cells #[.int .i64 r.1.1, .int .i64 r.1.2, .int .i64 r.2.1.1, .int .i64 r.2.1.2, .slice yra4 yrn4 yrc4, .slice yra5 yrn5 yrc5, .slice yra6 yrn6 yrc6] 34))).heap.size from by simp) (More.size (show More ((w5.alloc (.cells #[.int .i64 r.1.1, .int .i64 r.1.2, .int .i64 r.2.1.1, .int .i64 r.2.1.2, .slice yra4 yrn4 yrc4, .slice yra5 yrn5 yrc5, .slice yra6 yrn6 yrc6] 34))) _ from mC))) (fun h => by have h1 := HByltx0 _ h; omega) (HBy _ mC).2.1, turn_cell T14 (Nat.lt_of_lt_of_le (show w5.heap.size < ((w5.alloc (.cells #[.int .i64 r.1.1, .int .i64 r.1.2, .int .i64 r.2.1.1, .int .i64 r.2.1.2, .slice yra4 yrn4 yrc4, .slice yra5 yrn5 yrc5, .slice yra6 yrn6 yrc6] 34))).heap.size from by simp) (More.size (show More ((w5.alloc (.cells #[.int .i64 r.1.1, .int .i64 r.1.2, .int .i64 r.2.1.1, .int .i64 r.2.1.2, .slice yra4 yrn4 yrc4, .slice yra5 yrn5 yrc5, .slice yra6 yrn6 yrc6] 34))) _ from mC))) (fun h => by have h1 := HByltx0 _ h; omega) (HBy _ mC).2.2.1, turn_cell T14 (Nat.lt_of_lt_of_le (show w5.heap.size < ((w5.alloc (.cells #[.int .i64 r.1.1, .int .i64 r.1.2, .int .i64 r.2.1.1, .int .i64 r.2.1.2, .slice yra4 yrn4 yrc4, .slice yra5 yrn5 yrc5, .slice yra6 yrn6 yrc6] 34))).heap.size from by simp) (More.size (show More ((w5.alloc (.cells #[.int .i64 r.1.1, .int .i64 r.1.2, .int .i64 r.2.1.1, .int .i64 r.2.1.2, .slice yra4 yrn4 yrc4, .slice yra5 yrn5 yrc5, .slice yra6 yrn6 yrc6] 34))) _ from mC))) (fun h => by have h1 := HByltx0 _ h; omega) (HBy _ mC).2.2.2.1, turn_cell T14 (Nat.lt_of_lt_of_le (show w5.heap.size < ((w5.alloc (.cells #[.int .i64 r.1.1, .int .i64 r.1.2, .int .i64 r.2.1.1, .int .i64 r.2.1.2, .slice yra4 yrn4 yrc4, .slice yra5 yrn5 yrc5, .slice yra6 yrn6 yrc6] 34))).heap.size from by simp) (More.size (show More ((w5.alloc (.cells #[.int .i64 r.1.1, .int .i64 r.1.2, .int .i64 r.2.1.1, .int .i64 r.2.1.2, .slice yra4 yrn4 yrc4, .slice yra5 yrn5 yrc5, .slice yra6 yrn6 yrc6] 34))) _ from mC))) (fun h => by have h1 := HByltx0 _ h; omega) (HBy _ mC).2.2.2.2.1, turn_cell T14 (Nat.lt_of_lt_of_le (show w5.heap.size < ((w5.alloc (.cells #[.int .i64 r.1.1, .int .i64 r.1.2, .int .i64 r.2.1.1, .int .i64 r.2.1.2, .slice yra4 yrn4 yrc4, .slice yra5 yrn5 yrc5, .slice yra6 yrn6 yrc6] 34))).heap.size from by simp) (More.size (show More ((w5.alloc (.cells #[.int .i64 r.1.1, .int .i64 r.1.2, .int .i64 r.2.1.1, .int .i64 r.2.1.2, .slice yra4 yrn4 yrc4, .slice yra5 yrn5 yrc5, .slice yra6 yrn6 yrc6] 34))) _ from mC))) (fun h => by have h1 := HByltx0 _ h; omega) (HBy _ mC).2.2.2.2.2.1, turn_cell T14 (Nat.lt_of_lt_of_le (show w5.heap.size < ((w5.alloc (.cells #[.int .i64 r.1.1, .int .i64 r.1.2, .int .i64 r.2.1.1, .int .i64 r.2.1.2, .slice yra4 yrn4 yrc4, .slice yra5 yrn5 yrc5, .slice yra6 yrn6 yrc6] 34))).heap.size from by simp) (More.size (show More ((w5.alloc (.cells #[.int .i64 r.1.1, .int .i64 r.1.2, .int .i64 r.2.1.1, .int .i64 r.2.1.2, .slice yra4 yrn4 yrc4, .slice yra5 yrn5 yrc5, .slice yra6 yrn6 yrc6] 34))) _ from mC))) (fun h => by have h1 := HByltx0 _ h; omega) (HBy _ mC).2.2.2.2.2.2⟩
  have HBx0z' : w6.heap.size < w14.heap.size := Nat.lt_of_lt_of_le (Nat.lt_of_lt_of_le (show w6.heap.size < ((w6.alloc (.cells #[.int .i64 s.1.1, .int .i64 s.1.2, .int .i64 s.2.1.1, .int .i64 s.2.1.2, .slice x0za4 x0zn4 x0zc4, .slice x0za5 x0zn5 x0zc5, .slice x0za6 x0zn6 x0zc6] 34))).heap.size from by simp) (More.size (show More ((w6.alloc (.cells #[.int .i64 s.1.1, .int .i64 s.1.2, .int .i64 s.2.1.1, .int .i64 s.2.1.2, .slice x0za4 x0zn4 x0zc4, .slice x0za5 x0zn5 x0zc5, .slice x0za6 x0zn6 x0zc6] 34))) _ from mC))) T14.size
  have HBx0k : w14.cell? ⟨w6.heap.size, 0, none⟩ = some (.int .i64 s.1.1) ∧ w14.cell? ⟨w6.heap.size, 1, none⟩ = some (.int .i64 s.1.2) ∧ w14.cell? ⟨w6.heap.size, 2, none⟩ = some (.int .i64 s.2.1.1) ∧ w14.cell? ⟨w6.heap.size, 3, none⟩ = some (.int .i64 s.2.1.2) ∧ w14.cell? ⟨w6.heap.size, 4, none⟩ = some (.slice x0za4 x0zn4 x0zc4) ∧ w14.cell? ⟨w6.heap.size, 5, none⟩ = some (.slice x0za5 x0zn5 x0zc5) ∧ w14.cell? ⟨w6.heap.size, 6, none⟩ = some (.slice x0za6 x0zn6 x0zc6) := ⟨turn_cell T14 (Nat.lt_of_lt_of_le (show w6.heap.size < ((w6.alloc (.cells #[.int .i64 s.1.1, .int .i64 s.1.2, .int .i64 s.2.1.1, .int .i64 s.2.1.2, .slice x0za4 x0zn4 x0zc4, .slice x0za5 x0zn5 x0zc5, .slice x0za6 x0zn6 x0zc6] 34))).heap.size from by simp) (More.size (show More ((w6.alloc (.cells #[.int .i64 s.1.1, .int .i64 s.1.2, .int .i64 s.2.1.1, .int .i64 s.2.1.2, .slice x0za4 x0zn4 x0zc4, .slice x0za5 x0zn5 x0zc5, .slice x0za6 x0zn6 x0zc6] 34))) _ from mC))) (fun h => by have h1 := HBx0gex0; have h2 := tScene.own_lt X0 _ h; omega) (HBx0 _ mC).1, turn_cell T14 (Nat.lt_of_lt_of_le (show w6.heap.size < ((w6.alloc (.cells #[.int .i64 s.1.1, .int .i64 s.1.2, .int .i64 s.2.1.1, .int .i64 s.2.1.2, .slice x0za4 x0zn4 x0zc4, .slice x0za5 x0zn5 x0zc5, .slice x0za6 x0zn6 x0zc6] 34))).heap.size from by simp) (More.size (show More ((w6.alloc (.cells #[.int .i64 s.1.1, .int .i64 s.1.2, .int .i64 s.2.1.1, .int .i64 s.2.1.2, .slice x0za4 x0zn4 x0zc4, .slice x0za5 x0zn5 x0zc5, .slice x0za6 x0zn6 x0zc6] 34))) _ from mC))) (fun h => by have h1 := HBx0gex0; have h2 := tScene.own_lt X0 _ h; omega) (HBx0 _ mC).2.1, turn_cell T14 (Nat.lt_of_lt_of_le (show w6.heap.size < ((w6.alloc (.cells #[.int .i64 s.1.1, .int .i64 s.1.2, .int .i64 s.2.1.1, .int .i64 s.2.1.2, .slice x0za4 x0zn4 x0zc4, .slice x0za5 x0zn5 x0zc5, .slice x0za6 x0zn6 x0zc6] 34))).heap.size from by simp) (More.size (show More ((w6.alloc (.cells #[.int .i64 s.1.1, .int .i64 s.1.2, .int .i64 s.2.1.1, .int .i64 s.2.1.2, .slice x0za4 x0zn4 x0zc4, .slice x0za5 x0zn5 x0zc5, .slice x0za6 x0zn6 x0zc6] 34))) _ from mC))) (fun h => by have h1 := HBx0gex0; have h2 := tScene.own_lt X0 _ h; omega) (HBx0 _ mC).2.2.1, turn_cell T14 (Nat.lt_of_lt_of_le (show w6.heap.size < ((w6.alloc (.cells #[.int .i64 s.1.1, .int .i64 s.1.2, .int .i64 s.2.1.1, .int .i64 s.2.1.2, .slice x0za4 x0zn4 x0zc4, .slice x0za5 x0zn5 x0zc5, .slice x0za6 x0zn6 x0zc6] 34))).heap.size from by simp) (More.size (show More ((w6.alloc (.cells #[.int .i64 s.1.1, .int .i64 s.1.2, .int .i64 s.2.1.1, .int .i64 s.2.1.2, .slice x0za4 x0zn4 x0zc4, .slice x0za5 x0zn5 x0zc5, .slice x0za6 x0zn6 x0zc6] 34))) _ from mC))) (fun h => by have h1 := HBx0gex0; have h2 := tScene.own_lt X0 _ h; omega) (HBx0 _ mC).2.2.2.1, turn_cell T14 (Nat.lt_of_lt_of_le (show w6.heap.size < ((w6.alloc (.cells #[.int .i64 s.1.1, .int .i64 s.1.2, .int .i64 s.2.1.1, .int .i64 s.2.1.2, .slice x0za4 x0zn4 x0zc4, .slice x0za5 x0zn5 x0zc5, .slice x0za6 x0zn6 x0zc6] 34))).heap.size from by simp) (More.size (show More ((w6.alloc (.cells #[.int .i64 s.1.1, .int .i64 s.1.2, .int .i64 s.2.1.1, .int .i64 s.2.1.2, .slice x0za4 x0zn4 x0zc4, .slice x0za5 x0zn5 x0zc5, .slice x0za6 x0zn6 x0zc6] 34))) _ from mC))) (fun h => by have h1 := HBx0gex0; have h2 := tScene.own_lt X0 _ h; omega) (HBx0 _ mC).2.2.2.2.1, turn_cell T14 (Nat.lt_of_lt_of_le (show w6.heap.size < ((w6.alloc (.cells #[.int .i64 s.1.1, .int .i64 s.1.2, .int .i64 s.2.1.1, .int .i64 s.2.1.2, .slice x0za4 x0zn4 x0zc4, .slice x0za5 x0zn5 x0zc5, .slice x0za6 x0zn6 x0zc6] 34))).heap.size from by simp) (More.size (show More ((w6.alloc (.cells #[.int .i64 s.1.1, .int .i64 s.1.2, .int .i64 s.2.1.1, .int .i64 s.2.1.2, .slice x0za4 x0zn4 x0zc4, .slice x0za5 x0zn5 x0zc5, .slice x0za6 x0zn6 x0zc6] 34))) _ from mC))) (fun h => by have h1 := HBx0gex0; have h2 := tScene.own_lt X0 _ h; omega) (HBx0 _ mC).2.2.2.2.2.1, turn_cell T14 (Nat.lt_of_lt_of_le (show w6.heap.size < ((w6.alloc (.cells #[.int .i64 s.1.1, .int .i64 s.1.2, .int .i64 s.2.1.1, .int .i64 s.2.1.2, .slice x0za4 x0zn4 x0zc4, .slice x0za5 x0zn5 x0zc5, .slice x0za6 x0zn6 x0zc6] 34))).heap.size from by simp) (More.size (show More ((w6.alloc (.cells #[.int .i64 s.1.1, .int .i64 s.1.2, .int .i64 s.2.1.1, .int .i64 s.2.1.2, .slice x0za4 x0zn4 x0zc4, .slice x0za5 x0zn5 x0zc5, .slice x0za6 x0zn6 x0zc6] 34))) _ from mC))) (fun h => by have h1 := HBx0gex0; have h2 := tScene.own_lt X0 _ h; omega) (HBx0 _ mC).2.2.2.2.2.2⟩
  have HBgz' : w8.heap.size < w14.heap.size := Nat.lt_of_lt_of_le (Nat.lt_of_lt_of_le (show w8.heap.size < ((w8.alloc (.cells #[.int .i64 r.1.1, .int .i64 r.1.2, .int .i64 r.2.1.1, .int .i64 r.2.1.2, .slice gra4 grn4 grc4, .slice gra5 grn5 grc5, .slice gra6 grn6 grc6] 34))).heap.size from by simp) (More.size (show More ((w8.alloc (.cells #[.int .i64 r.1.1, .int .i64 r.1.2, .int .i64 r.2.1.1, .int .i64 r.2.1.2, .slice gra4 grn4 grc4, .slice gra5 grn5 grc5, .slice gra6 grn6 grc6] 34))) _ from mC))) T14.size
  have HBgk : w14.cell? ⟨w8.heap.size, 0, none⟩ = some (.int .i64 r.1.1) ∧ w14.cell? ⟨w8.heap.size, 1, none⟩ = some (.int .i64 r.1.2) ∧ w14.cell? ⟨w8.heap.size, 2, none⟩ = some (.int .i64 r.2.1.1) ∧ w14.cell? ⟨w8.heap.size, 3, none⟩ = some (.int .i64 r.2.1.2) ∧ w14.cell? ⟨w8.heap.size, 4, none⟩ = some (.slice gra4 grn4 grc4) ∧ w14.cell? ⟨w8.heap.size, 5, none⟩ = some (.slice gra5 grn5 grc5) ∧ w14.cell? ⟨w8.heap.size, 6, none⟩ = some (.slice gra6 grn6 grc6) := ⟨turn_cell T14 (Nat.lt_of_lt_of_le (show w8.heap.size < ((w8.alloc (.cells #[.int .i64 r.1.1, .int .i64 r.1.2, .int .i64 r.2.1.1, .int .i64 r.2.1.2, .slice gra4 grn4 grc4, .slice gra5 grn5 grc5, .slice gra6 grn6 grc6] 34))).heap.size from by simp) (More.size (show More ((w8.alloc (.cells #[.int .i64 r.1.1, .int .i64 r.1.2, .int .i64 r.2.1.1, .int .i64 r.2.1.2, .slice gra4 grn4 grc4, .slice gra5 grn5 grc5, .slice gra6 grn6 grc6] 34))) _ from mC))) (fun h => by have h1 := HBggex0; have h2 := tScene.own_lt X0 _ h; omega) (HBg _ mC).1, turn_cell T14 (Nat.lt_of_lt_of_le (show w8.heap.size < ((w8.alloc (.cells #[.int .i64 r.1.1, .int .i64 r.1.2, .int .i64 r.2.1.1, .int .i64 r.2.1.2, .slice gra4 grn4 grc4, .slice gra5 grn5 grc5, .slice gra6 grn6 grc6] 34))).heap.size from by simp) (More.size (show More ((w8.alloc (.cells #[.int .i64 r.1.1, .int .i64 r.1.2, .int .i64 r.2.1.1, .int .i64 r.2.1.2, .slice gra4 grn4 grc4, .slice gra5 grn5 grc5, .slice gra6 grn6 grc6] 34))) _ from mC))) (fun h => by have h1 := HBggex0; have h2 := tScene.own_lt X0 _ h; omega) (HBg _ mC).2.1, turn_cell T14 (Nat.lt_of_lt_of_le (show w8.heap.size < ((w8.alloc (.cells #[.int .i64 r.1.1, .int .i64 r.1.2, .int .i64 r.2.1.1, .int .i64 r.2.1.2, .slice gra4 grn4 grc4, .slice gra5 grn5 grc5, .slice gra6 grn6 grc6] 34))).heap.size from by simp) (More.size (show More ((w8.alloc (.cells #[.int .i64 r.1.1, .int .i64 r.1.2, .int .i64 r.2.1.1, .int .i64 r.2.1.2, .slice gra4 grn4 grc4, .slice gra5 grn5 grc5, .slice gra6 grn6 grc6] 34))) _ from mC))) (fun h => by have h1 := HBggex0; have h2 := tScene.own_lt X0 _ h; omega) (HBg _ mC).2.2.1, turn_cell T14 (Nat.lt_of_lt_of_le (show w8.heap.size < ((w8.alloc (.cells #[.int .i64 r.1.1, .int .i64 r.1.2, .int .i64 r.2.1.1, .int .i64 r.2.1.2, .slice gra4 grn4 grc4, .slice gra5 grn5 grc5, .slice gra6 grn6 grc6] 34))).heap.size from by simp) (More.size (show More ((w8.alloc (.cells #[.int .i64 r.1.1, .int .i64 r.1.2, .int .i64 r.2.1.1, .int .i64 r.2.1.2, .slice gra4 grn4 grc4, .slice gra5 grn5 grc5, .slice gra6 grn6 grc6] 34))) _ from mC))) (fun h => by have h1 := HBggex0; have h2 := tScene.own_lt X0 _ h; omega) (HBg _ mC).2.2.2.1, turn_cell T14 (Nat.lt_of_lt_of_le (show w8.heap.size < ((w8.alloc (.cells #[.int .i64 r.1.1, .int .i64 r.1.2, .int .i64 r.2.1.1, .int .i64 r.2.1.2, .slice gra4 grn4 grc4, .slice gra5 grn5 grc5, .slice gra6 grn6 grc6] 34))).heap.size from by simp) (More.size (show More ((w8.alloc (.cells #[.int .i64 r.1.1, .int .i64 r.1.2, .int .i64 r.2.1.1, .int .i64 r.2.1.2, .slice gra4 grn4 grc4, .slice gra5 grn5 grc5, .slice gra6 grn6 grc6] 34))) _ from mC))) (fun h => by have h1 := HBggex0; have h2 := tScene.own_lt X0 _ h; omega) (HBg _ mC).2.2.2.2.1, turn_cell T14 (Nat.lt_of_lt_of_le (show w8.heap.size < ((w8.alloc (.cells #[.int .i64 r.1.1, .int .i64 r.1.2, .int .i64 r.2.1.1, .int .i64 r.2.1.2, .slice gra4 grn4 grc4, .slice gra5 grn5 grc5, .slice gra6 grn6 grc6] 34))).heap.size from by simp) (More.size (show More ((w8.alloc (.cells #[.int .i64 r.1.1, .int .i64 r.1.2, .int .i64 r.2.1.1, .int .i64 r.2.1.2, .slice gra4 grn4 grc4, .slice gra5 grn5 grc5, .slice gra6 grn6 grc6] 34))) _ from mC))) (fun h => by have h1 := HBggex0; have h2 := tScene.own_lt X0 _ h; omega) (HBg _ mC).2.2.2.2.2.1, turn_cell T14 (Nat.lt_of_lt_of_le (show w8.heap.size < ((w8.alloc (.cells #[.int .i64 r.1.1, .int .i64 r.1.2, .int .i64 r.2.1.1, .int .i64 r.2.1.2, .slice gra4 grn4 grc4, .slice gra5 grn5 grc5, .slice gra6 grn6 grc6] 34))).heap.size from by simp) (More.size (show More ((w8.alloc (.cells #[.int .i64 r.1.1, .int .i64 r.1.2, .int .i64 r.2.1.1, .int .i64 r.2.1.2, .slice gra4 grn4 grc4, .slice gra5 grn5 grc5, .slice gra6 grn6 grc6] 34))) _ from mC))) (fun h => by have h1 := HBggex0; have h2 := tScene.own_lt X0 _ h; omega) (HBg _ mC).2.2.2.2.2.2⟩
  have b14 := More.turn (b6.trans mC) T14 lx0
  try clear HBa0_13
  try clear HBa0s13
  clear HBa0
  have HBa0 : ∀ w', More w14 w' → w'.cell? ⟨W.heap.size, 0, none⟩ = some (.int .i64 s.1.1) ∧ w'.cell? ⟨W.heap.size, 1, none⟩ = some (.int .i64 s.1.2) ∧ w'.cell? ⟨W.heap.size, 2, none⟩ = some (.int .i64 s.2.1.1) ∧ w'.cell? ⟨W.heap.size, 3, none⟩ = some (.int .i64 s.2.1.2) ∧ w'.cell? ⟨W.heap.size, 4, none⟩ = some (.slice s0a4 s0n4 s0c4) ∧ w'.cell? ⟨W.heap.size, 5, none⟩ = some (.slice s0a5 s0n5 s0c5) ∧ w'.cell? ⟨W.heap.size, 6, none⟩ = some (.slice s0a6 s0n6 s0c6) := fun w' h => ⟨box_keep h HBa0z' (HBa0k.1), box_keep h HBa0z' (HBa0k.2.1), box_keep h HBa0z' (HBa0k.2.2.1), box_keep h HBa0z' (HBa0k.2.2.2.1), box_keep h HBa0z' (HBa0k.2.2.2.2.1), box_keep h HBa0z' (HBa0k.2.2.2.2.2.1), box_keep h HBa0z' (HBa0k.2.2.2.2.2.2)⟩
  try clear HBa0z
  have HBa0z := HBa0z'; clear HBa0z' HBa0k
  have HBa0_14 := HBa0 w14 (More.refl _)
  have HBa0s14 := HBa0z
  try clear HBy_13
  try clear HBys13
  clear HBy
  have HBy : ∀ w', More w14 w' → w'.cell? ⟨w5.heap.size, 0, none⟩ = some (.int .i64 r.1.1) ∧ w'.cell? ⟨w5.heap.size, 1, none⟩ = some (.int .i64 r.1.2) ∧ w'.cell? ⟨w5.heap.size, 2, none⟩ = some (.int .i64 r.2.1.1) ∧ w'.cell? ⟨w5.heap.size, 3, none⟩ = some (.int .i64 r.2.1.2) ∧ w'.cell? ⟨w5.heap.size, 4, none⟩ = some (.slice yra4 yrn4 yrc4) ∧ w'.cell? ⟨w5.heap.size, 5, none⟩ = some (.slice yra5 yrn5 yrc5) ∧ w'.cell? ⟨w5.heap.size, 6, none⟩ = some (.slice yra6 yrn6 yrc6) := fun w' h => ⟨box_keep h HByz' (HByk.1), box_keep h HByz' (HByk.2.1), box_keep h HByz' (HByk.2.2.1), box_keep h HByz' (HByk.2.2.2.1), box_keep h HByz' (HByk.2.2.2.2.1), box_keep h HByz' (HByk.2.2.2.2.2.1), box_keep h HByz' (HByk.2.2.2.2.2.2)⟩
  try clear HByz
  have HByz := HByz'; clear HByz' HByk
  have HBy_14 := HBy w14 (More.refl _)
  have HBys14 := HByz
  try clear HBx0_13
  try clear HBx0s13
  clear HBx0
  have HBx0 : ∀ w', More w14 w' → w'.cell? ⟨w6.heap.size, 0, none⟩ = some (.int .i64 s.1.1) ∧ w'.cell? ⟨w6.heap.size, 1, none⟩ = some (.int .i64 s.1.2) ∧ w'.cell? ⟨w6.heap.size, 2, none⟩ = some (.int .i64 s.2.1.1) ∧ w'.cell? ⟨w6.heap.size, 3, none⟩ = some (.int .i64 s.2.1.2) ∧ w'.cell? ⟨w6.heap.size, 4, none⟩ = some (.slice x0za4 x0zn4 x0zc4) ∧ w'.cell? ⟨w6.heap.size, 5, none⟩ = some (.slice x0za5 x0zn5 x0zc5) ∧ w'.cell? ⟨w6.heap.size, 6, none⟩ = some (.slice x0za6 x0zn6 x0zc6) := fun w' h => ⟨box_keep h HBx0z' (HBx0k.1), box_keep h HBx0z' (HBx0k.2.1), box_keep h HBx0z' (HBx0k.2.2.1), box_keep h HBx0z' (HBx0k.2.2.2.1), box_keep h HBx0z' (HBx0k.2.2.2.2.1), box_keep h HBx0z' (HBx0k.2.2.2.2.2.1), box_keep h HBx0z' (HBx0k.2.2.2.2.2.2)⟩
  try clear HBx0z
  have HBx0z := HBx0z'; clear HBx0z' HBx0k
  have HBx0_14 := HBx0 w14 (More.refl _)
  have HBx0s14 := HBx0z
  try clear HBg_13
  try clear HBgs13
  clear HBg
  have HBg : ∀ w', More w14 w' → w'.cell? ⟨w8.heap.size, 0, none⟩ = some (.int .i64 r.1.1) ∧ w'.cell? ⟨w8.heap.size, 1, none⟩ = some (.int .i64 r.1.2) ∧ w'.cell? ⟨w8.heap.size, 2, none⟩ = some (.int .i64 r.2.1.1) ∧ w'.cell? ⟨w8.heap.size, 3, none⟩ = some (.int .i64 r.2.1.2) ∧ w'.cell? ⟨w8.heap.size, 4, none⟩ = some (.slice gra4 grn4 grc4) ∧ w'.cell? ⟨w8.heap.size, 5, none⟩ = some (.slice gra5 grn5 grc5) ∧ w'.cell? ⟨w8.heap.size, 6, none⟩ = some (.slice gra6 grn6 grc6) := fun w' h => ⟨box_keep h HBgz' (HBgk.1), box_keep h HBgz' (HBgk.2.1), box_keep h HBgz' (HBgk.2.2.1), box_keep h HBgz' (HBgk.2.2.2.1), box_keep h HBgz' (HBgk.2.2.2.2.1), box_keep h HBgz' (HBgk.2.2.2.2.2.1), box_keep h HBgz' (HBgk.2.2.2.2.2.2)⟩
  try clear HBgz
  have HBgz := HBgz'; clear HBgz' HBgk
  have HBg_14 := HBg w14 (More.refl _)
  have HBgs14 := HBgz
  have k14 : 0 ≤ 1 + ((cScene s : Nat) : Int) := by omega
  go_wp2_with fail
  refine (laws_markVecS_ bx1 _ l _ _ (Ty.own_more x1o14 mC) nx1 (by omega) (by have h09 := HC0.out; have := HC1.out; omega) (show wVecS l ≤ 1048576 from Hs1.out)).mono ?_
  rintro e w15 ⟨rfl, T15, M15⟩
  have go15 := Ty.own_turns (Ty.own_more go14 mC) T15 (fun k hk hk' => by have h1 := lg_x1 k hk; have h2 := tVecs.own_lt X1 k hk'; omega)
  have HBa0z' : W.heap.size < w15.heap.size := Nat.lt_of_lt_of_le (Nat.lt_of_lt_of_le (show W.heap.size < (w14).heap.size from by exact HBa0z) (More.size (show More (w14) _ from mC))) T15.size
  have HBa0k : w15.cell? ⟨W.heap.size, 0, none⟩ = some (.int .i64 s.1.1) ∧ w15.cell? ⟨W.heap.size, 1, none⟩ = some (.int .i64 s.1.2) ∧ w15.cell? ⟨W.heap.size, 2, none⟩ = some (.int .i64 s.2.1.1) ∧ w15.cell? ⟨W.heap.size, 3, none⟩ = some (.int .i64 s.2.1.2) ∧ w15.cell? ⟨W.heap.size, 4, none⟩ = some (.slice s0a4 s0n4 s0c4) ∧ w15.cell? ⟨W.heap.size, 5, none⟩ = some (.slice s0a5 s0n5 s0c5) ∧ w15.cell? ⟨W.heap.size, 6, none⟩ = some (.slice s0a6 s0n6 s0c6) := ⟨turn_cell T15 (Nat.lt_of_lt_of_le (show W.heap.size < (w14).heap.size from by exact HBa0z) (More.size (show More (w14) _ from mC))) (fun h => by have h1 := HBa0ltx1 _ h; omega) (HBa0 _ mC).1, turn_cell T15 (Nat.lt_of_lt_of_le (show W.heap.size < (w14).heap.size from by exact HBa0z) (More.size (show More (w14) _ from mC))) (fun h => by have h1 := HBa0ltx1 _ h; omega) (HBa0 _ mC).2.1, turn_cell T15 (Nat.lt_of_lt_of_le (show W.heap.size < (w14).heap.size from by exact HBa0z) (More.size (show More (w14) _ from mC))) (fun h => by have h1 := HBa0ltx1 _ h; omega) (HBa0 _ mC).2.2.1, turn_cell T15 (Nat.lt_of_lt_of_le (show W.heap.size < (w14).heap.size from by exact HBa0z) (More.size (show More (w14) _ from mC))) (fun h => by have h1 := HBa0ltx1 _ h; omega) (HBa0 _ mC).2.2.2.1, turn_cell T15 (Nat.lt_of_lt_of_le (show W.heap.size < (w14).heap.size from by exact HBa0z) (More.size (show More (w14) _ from mC))) (fun h => by have h1 := HBa0ltx1 _ h; omega) (HBa0 _ mC).2.2.2.2.1, turn_cell T15 (Nat.lt_of_lt_of_le (show W.heap.size < (w14).heap.size from by exact HBa0z) (More.size (show More (w14) _ from mC))) (fun h => by have h1 := HBa0ltx1 _ h; omega) (HBa0 _ mC).2.2.2.2.2.1, turn_cell T15 (Nat.lt_of_lt_of_le (show W.heap.size < (w14).heap.size from by exact HBa0z) (More.size (show More (w14) _ from mC))) (fun h => by have h1 := HBa0ltx1 _ h; omega) (HBa0 _ mC).2.2.2.2.2.2⟩
  have HByz' : w5.heap.size < w15.heap.size := Nat.lt_of_lt_of_le (Nat.lt_of_lt_of_le (show w5.heap.size < (w14).heap.size from by exact HByz) (More.size (show More (w14) _ from mC))) T15.size
  have HByk : w15.cell? ⟨w5.heap.size, 0, none⟩ = some (.int .i64 r.1.1) ∧ w15.cell? ⟨w5.heap.size, 1, none⟩ = some (.int .i64 r.1.2) ∧ w15.cell? ⟨w5.heap.size, 2, none⟩ = some (.int .i64 r.2.1.1) ∧ w15.cell? ⟨w5.heap.size, 3, none⟩ = some (.int .i64 r.2.1.2) ∧ w15.cell? ⟨w5.heap.size, 4, none⟩ = some (.slice yra4 yrn4 yrc4) ∧ w15.cell? ⟨w5.heap.size, 5, none⟩ = some (.slice yra5 yrn5 yrc5) ∧ w15.cell? ⟨w5.heap.size, 6, none⟩ = some (.slice yra6 yrn6 yrc6) := ⟨turn_cell T15 (Nat.lt_of_lt_of_le (show w5.heap.size < (w14).heap.size from by exact HByz) (More.size (show More (w14) _ from mC))) (fun h => by have h1 := HByltx1 _ h; omega) (HBy _ mC).1, turn_cell T15 (Nat.lt_of_lt_of_le (show w5.heap.size < (w14).heap.size from by exact HByz) (More.size (show More (w14) _ from mC))) (fun h => by have h1 := HByltx1 _ h; omega) (HBy _ mC).2.1, turn_cell T15 (Nat.lt_of_lt_of_le (show w5.heap.size < (w14).heap.size from by exact HByz) (More.size (show More (w14) _ from mC))) (fun h => by have h1 := HByltx1 _ h; omega) (HBy _ mC).2.2.1, turn_cell T15 (Nat.lt_of_lt_of_le (show w5.heap.size < (w14).heap.size from by exact HByz) (More.size (show More (w14) _ from mC))) (fun h => by have h1 := HByltx1 _ h; omega) (HBy _ mC).2.2.2.1, turn_cell T15 (Nat.lt_of_lt_of_le (show w5.heap.size < (w14).heap.size from by exact HByz) (More.size (show More (w14) _ from mC))) (fun h => by have h1 := HByltx1 _ h; omega) (HBy _ mC).2.2.2.2.1, turn_cell T15 (Nat.lt_of_lt_of_le (show w5.heap.size < (w14).heap.size from by exact HByz) (More.size (show More (w14) _ from mC))) (fun h => by have h1 := HByltx1 _ h; omega) (HBy _ mC).2.2.2.2.2.1, turn_cell T15 (Nat.lt_of_lt_of_le (show w5.heap.size < (w14).heap.size from by exact HByz) (More.size (show More (w14) _ from mC))) (fun h => by have h1 := HByltx1 _ h; omega) (HBy _ mC).2.2.2.2.2.2⟩
  have HBx0z' : w6.heap.size < w15.heap.size := Nat.lt_of_lt_of_le (Nat.lt_of_lt_of_le (show w6.heap.size < (w14).heap.size from by exact HBx0z) (More.size (show More (w14) _ from mC))) T15.size
  have HBx0k : w15.cell? ⟨w6.heap.size, 0, none⟩ = some (.int .i64 s.1.1) ∧ w15.cell? ⟨w6.heap.size, 1, none⟩ = some (.int .i64 s.1.2) ∧ w15.cell? ⟨w6.heap.size, 2, none⟩ = some (.int .i64 s.2.1.1) ∧ w15.cell? ⟨w6.heap.size, 3, none⟩ = some (.int .i64 s.2.1.2) ∧ w15.cell? ⟨w6.heap.size, 4, none⟩ = some (.slice x0za4 x0zn4 x0zc4) ∧ w15.cell? ⟨w6.heap.size, 5, none⟩ = some (.slice x0za5 x0zn5 x0zc5) ∧ w15.cell? ⟨w6.heap.size, 6, none⟩ = some (.slice x0za6 x0zn6 x0zc6) := ⟨turn_cell T15 (Nat.lt_of_lt_of_le (show w6.heap.size < (w14).heap.size from by exact HBx0z) (More.size (show More (w14) _ from mC))) (fun h => by have h1 := HBx0ltx1 _ h; omega) (HBx0 _ mC).1, turn_cell T15 (Nat.lt_of_lt_of_le (show w6.heap.size < (w14).heap.size from by exact HBx0z) (More.size (show More (w14) _ from mC))) (fun h => by have h1 := HBx0ltx1 _ h; omega) (HBx0 _ mC).2.1, turn_cell T15 (Nat.lt_of_lt_of_le (show w6.heap.size < (w14).heap.size from by exact HBx0z) (More.size (show More (w14) _ from mC))) (fun h => by have h1 := HBx0ltx1 _ h; omega) (HBx0 _ mC).2.2.1, turn_cell T15 (Nat.lt_of_lt_of_le (show w6.heap.size < (w14).heap.size from by exact HBx0z) (More.size (show More (w14) _ from mC))) (fun h => by have h1 := HBx0ltx1 _ h; omega) (HBx0 _ mC).2.2.2.1, turn_cell T15 (Nat.lt_of_lt_of_le (show w6.heap.size < (w14).heap.size from by exact HBx0z) (More.size (show More (w14) _ from mC))) (fun h => by have h1 := HBx0ltx1 _ h; omega) (HBx0 _ mC).2.2.2.2.1, turn_cell T15 (Nat.lt_of_lt_of_le (show w6.heap.size < (w14).heap.size from by exact HBx0z) (More.size (show More (w14) _ from mC))) (fun h => by have h1 := HBx0ltx1 _ h; omega) (HBx0 _ mC).2.2.2.2.2.1, turn_cell T15 (Nat.lt_of_lt_of_le (show w6.heap.size < (w14).heap.size from by exact HBx0z) (More.size (show More (w14) _ from mC))) (fun h => by have h1 := HBx0ltx1 _ h; omega) (HBx0 _ mC).2.2.2.2.2.2⟩
  have HBgz' : w8.heap.size < w15.heap.size := Nat.lt_of_lt_of_le (Nat.lt_of_lt_of_le (show w8.heap.size < (w14).heap.size from by exact HBgz) (More.size (show More (w14) _ from mC))) T15.size
  have HBgk : w15.cell? ⟨w8.heap.size, 0, none⟩ = some (.int .i64 r.1.1) ∧ w15.cell? ⟨w8.heap.size, 1, none⟩ = some (.int .i64 r.1.2) ∧ w15.cell? ⟨w8.heap.size, 2, none⟩ = some (.int .i64 r.2.1.1) ∧ w15.cell? ⟨w8.heap.size, 3, none⟩ = some (.int .i64 r.2.1.2) ∧ w15.cell? ⟨w8.heap.size, 4, none⟩ = some (.slice gra4 grn4 grc4) ∧ w15.cell? ⟨w8.heap.size, 5, none⟩ = some (.slice gra5 grn5 grc5) ∧ w15.cell? ⟨w8.heap.size, 6, none⟩ = some (.slice gra6 grn6 grc6) := ⟨turn_cell T15 (Nat.lt_of_lt_of_le (show w8.heap.size < (w14).heap.size from by exact HBgz) (More.size (show More (w14) _ from mC))) (fun h => by have h1 := HBggex1; have h2 := tVecs.own_lt X1 _ h; omega) (HBg _ mC).1, turn_cell T15 (Nat.lt_of_lt_of_le (show w8.heap.size < (w14).heap.size from by exact HBgz) (More.size (show More (w14) _ from mC))) (fun h => by have h1 := HBggex1; have h2 := tVecs.own_lt X1 _ h; omega) (HBg _ mC).2.1, turn_cell T15 (Nat.lt_of_lt_of_le (show w8.heap.size < (w14).heap.size from by exact HBgz) (More.size (show More (w14) _ from mC))) (fun h => by have h1 := HBggex1; have h2 := tVecs.own_lt X1 _ h; omega) (HBg _ mC).2.2.1, turn_cell T15 (Nat.lt_of_lt_of_le (show w8.heap.size < (w14).heap.size from by exact HBgz) (More.size (show More (w14) _ from mC))) (fun h => by have h1 := HBggex1; have h2 := tVecs.own_lt X1 _ h; omega) (HBg _ mC).2.2.2.1, turn_cell T15 (Nat.lt_of_lt_of_le (show w8.heap.size < (w14).heap.size from by exact HBgz) (More.size (show More (w14) _ from mC))) (fun h => by have h1 := HBggex1; have h2 := tVecs.own_lt X1 _ h; omega) (HBg _ mC).2.2.2.2.1, turn_cell T15 (Nat.lt_of_lt_of_le (show w8.heap.size < (w14).heap.size from by exact HBgz) (More.size (show More (w14) _ from mC))) (fun h => by have h1 := HBggex1; have h2 := tVecs.own_lt X1 _ h; omega) (HBg _ mC).2.2.2.2.2.1, turn_cell T15 (Nat.lt_of_lt_of_le (show w8.heap.size < (w14).heap.size from by exact HBgz) (More.size (show More (w14) _ from mC))) (fun h => by have h1 := HBggex1; have h2 := tVecs.own_lt X1 _ h; omega) (HBg _ mC).2.2.2.2.2.2⟩
  have b15 := More.turn (b14.trans mC) T15 (fun k hk => Nat.le_trans (More.size (b6.trans mC)) (lx1 k hk))
  try clear HBa0_14
  try clear HBa0s14
  clear HBa0
  have HBa0 : ∀ w', More w15 w' → w'.cell? ⟨W.heap.size, 0, none⟩ = some (.int .i64 s.1.1) ∧ w'.cell? ⟨W.heap.size, 1, none⟩ = some (.int .i64 s.1.2) ∧ w'.cell? ⟨W.heap.size, 2, none⟩ = some (.int .i64 s.2.1.1) ∧ w'.cell? ⟨W.heap.size, 3, none⟩ = some (.int .i64 s.2.1.2) ∧ w'.cell? ⟨W.heap.size, 4, none⟩ = some (.slice s0a4 s0n4 s0c4) ∧ w'.cell? ⟨W.heap.size, 5, none⟩ = some (.slice s0a5 s0n5 s0c5) ∧ w'.cell? ⟨W.heap.size, 6, none⟩ = some (.slice s0a6 s0n6 s0c6) := fun w' h => ⟨box_keep h HBa0z' (HBa0k.1), box_keep h HBa0z' (HBa0k.2.1), box_keep h HBa0z' (HBa0k.2.2.1), box_keep h HBa0z' (HBa0k.2.2.2.1), box_keep h HBa0z' (HBa0k.2.2.2.2.1), box_keep h HBa0z' (HBa0k.2.2.2.2.2.1), box_keep h HBa0z' (HBa0k.2.2.2.2.2.2)⟩
  try clear HBa0z
  have HBa0z := HBa0z'; clear HBa0z' HBa0k
  have HBa0_15 := HBa0 w15 (More.refl _)
  have HBa0s15 := HBa0z
  try clear HBy_14
  try clear HBys14
  clear HBy
  have HBy : ∀ w', More w15 w' → w'.cell? ⟨w5.heap.size, 0, none⟩ = some (.int .i64 r.1.1) ∧ w'.cell? ⟨w5.heap.size, 1, none⟩ = some (.int .i64 r.1.2) ∧ w'.cell? ⟨w5.heap.size, 2, none⟩ = some (.int .i64 r.2.1.1) ∧ w'.cell? ⟨w5.heap.size, 3, none⟩ = some (.int .i64 r.2.1.2) ∧ w'.cell? ⟨w5.heap.size, 4, none⟩ = some (.slice yra4 yrn4 yrc4) ∧ w'.cell? ⟨w5.heap.size, 5, none⟩ = some (.slice yra5 yrn5 yrc5) ∧ w'.cell? ⟨w5.heap.size, 6, none⟩ = some (.slice yra6 yrn6 yrc6) := fun w' h => ⟨box_keep h HByz' (HByk.1), box_keep h HByz' (HByk.2.1), box_keep h HByz' (HByk.2.2.1), box_keep h HByz' (HByk.2.2.2.1), box_keep h HByz' (HByk.2.2.2.2.1), box_keep h HByz' (HByk.2.2.2.2.2.1), box_keep h HByz' (HByk.2.2.2.2.2.2)⟩
  try clear HByz
  have HByz := HByz'; clear HByz' HByk
  have HBy_15 := HBy w15 (More.refl _)
  have HBys15 := HByz
  try clear HBx0_14
  try clear HBx0s14
  clear HBx0
  have HBx0 : ∀ w', More w15 w' → w'.cell? ⟨w6.heap.size, 0, none⟩ = some (.int .i64 s.1.1) ∧ w'.cell? ⟨w6.heap.size, 1, none⟩ = some (.int .i64 s.1.2) ∧ w'.cell? ⟨w6.heap.size, 2, none⟩ = some (.int .i64 s.2.1.1) ∧ w'.cell? ⟨w6.heap.size, 3, none⟩ = some (.int .i64 s.2.1.2) ∧ w'.cell? ⟨w6.heap.size, 4, none⟩ = some (.slice x0za4 x0zn4 x0zc4) ∧ w'.cell? ⟨w6.heap.size, 5, none⟩ = some (.slice x0za5 x0zn5 x0zc5) ∧ w'.cell? ⟨w6.heap.size, 6, none⟩ = some (.slice x0za6 x0zn6 x0zc6) := fun w' h => ⟨box_keep h HBx0z' (HBx0k.1), box_keep h HBx0z' (HBx0k.2.1), box_keep h HBx0z' (HBx0k.2.2.1), box_keep h HBx0z' (HBx0k.2.2.2.1), box_keep h HBx0z' (HBx0k.2.2.2.2.1), box_keep h HBx0z' (HBx0k.2.2.2.2.2.1), box_keep h HBx0z' (HBx0k.2.2.2.2.2.2)⟩
  try clear HBx0z
  have HBx0z := HBx0z'; clear HBx0z' HBx0k
  have HBx0_15 := HBx0 w15 (More.refl _)
  have HBx0s15 := HBx0z
  try clear HBg_14
  try clear HBgs14
  clear HBg
  have HBg : ∀ w', More w15 w' → w'.cell? ⟨w8.heap.size, 0, none⟩ = some (.int .i64 r.1.1) ∧ w'.cell? ⟨w8.heap.size, 1, none⟩ = some (.int .i64 r.1.2) ∧ w'.cell? ⟨w8.heap.size, 2, none⟩ = some (.int .i64 r.2.1.1) ∧ w'.cell? ⟨w8.heap.size, 3, none⟩ = some (.int .i64 r.2.1.2) ∧ w'.cell? ⟨w8.heap.size, 4, none⟩ = some (.slice gra4 grn4 grc4) ∧ w'.cell? ⟨w8.heap.size, 5, none⟩ = some (.slice gra5 grn5 grc5) ∧ w'.cell? ⟨w8.heap.size, 6, none⟩ = some (.slice gra6 grn6 grc6) := fun w' h => ⟨box_keep h HBgz' (HBgk.1), box_keep h HBgz' (HBgk.2.1), box_keep h HBgz' (HBgk.2.2.1), box_keep h HBgz' (HBgk.2.2.2.1), box_keep h HBgz' (HBgk.2.2.2.2.1), box_keep h HBgz' (HBgk.2.2.2.2.2.1), box_keep h HBgz' (HBgk.2.2.2.2.2.2)⟩
  try clear HBgz
  have HBgz := HBgz'; clear HBgz' HBgk
  have HBg_15 := HBg w15 (More.refl _)
  have HBgs15 := HBgz
  have k15 : ¬ (1 + ((cScene s : Nat) : Int) + ((cVecS l : Nat) : Int) < 0) := by omega
  go_wp2_with fail
  refine (laws_eqScene _ _ r _ (Ty.at_more (Ty.rd_at (tScene.own_rd go15)) mC) (Ty.at_more Fy mC) HrL.out).mono ?_
  rintro e w16 ⟨rfl, b16⟩
  have HBa0_16 := HBa0 w16 mC
  have HBa0s16 : W.heap.size < w16.heap.size := by have := More.size (show More w15 w16 from mC); have := HBa0z; omega
  try clear HBa0_15
  try clear HBa0s15
  have HBy_16 := HBy w16 mC
  have HBys16 : w5.heap.size < w16.heap.size := by have := More.size (show More w15 w16 from mC); have := HByz; omega
  try clear HBy_15
  try clear HBys15
  have HBx0_16 := HBx0 w16 mC
  have HBx0s16 : w6.heap.size < w16.heap.size := by have := More.size (show More w15 w16 from mC); have := HBx0z; omega
  try clear HBx0_15
  try clear HBx0s15
  have HBg_16 := HBg w16 mC
  have HBgs16 : w8.heap.size < w16.heap.size := by have := More.size (show More w15 w16 from mC); have := HBgz; omega
  try clear HBg_15
  try clear HBgs15
  go_wp2_with fail
  refine (laws_markScene_ bg _ r _ _ (Ty.own_more go15 mC) ng (by omega) (by have := HrC.out; omega) HrL.out).mono ?_
  rintro e w17 ⟨rfl, T17, M17⟩
  have HBa0z' : W.heap.size < w17.heap.size := Nat.lt_of_lt_of_le (Nat.lt_of_lt_of_le (show W.heap.size < (w15).heap.size from by exact HBa0z) (More.size (show More (w15) _ from mC))) T17.size
  have HBa0k : w17.cell? ⟨W.heap.size, 0, none⟩ = some (.int .i64 s.1.1) ∧ w17.cell? ⟨W.heap.size, 1, none⟩ = some (.int .i64 s.1.2) ∧ w17.cell? ⟨W.heap.size, 2, none⟩ = some (.int .i64 s.2.1.1) ∧ w17.cell? ⟨W.heap.size, 3, none⟩ = some (.int .i64 s.2.1.2) ∧ w17.cell? ⟨W.heap.size, 4, none⟩ = some (.slice s0a4 s0n4 s0c4) ∧ w17.cell? ⟨W.heap.size, 5, none⟩ = some (.slice s0a5 s0n5 s0c5) ∧ w17.cell? ⟨W.heap.size, 6, none⟩ = some (.slice s0a6 s0n6 s0c6) := ⟨turn_cell T17 (Nat.lt_of_lt_of_le (show W.heap.size < (w15).heap.size from by exact HBa0z) (More.size (show More (w15) _ from mC))) (fun h => by have h1 := HBa0ltg _ h; omega) (HBa0 _ mC).1, turn_cell T17 (Nat.lt_of_lt_of_le (show W.heap.size < (w15).heap.size from by exact HBa0z) (More.size (show More (w15) _ from mC))) (fun h => by have h1 := HBa0ltg _ h; omega) (HBa0 _ mC).2.1, turn_cell T17 (Nat.lt_of_lt_of_le (show W.heap.size < (w15).heap.size from by exact HBa0z) (More.size (show More (w15) _ from mC))) (fun h => by have h1 := HBa0ltg _ h; omega) (HBa0 _ mC).2.2.1, turn_cell T17 (Nat.lt_of_lt_of_le (show W.heap.size < (w15).heap.size from by exact HBa0z) (More.size (show More (w15) _ from mC))) (fun h => by have h1 := HBa0ltg _ h; omega) (HBa0 _ mC).2.2.2.1, turn_cell T17 (Nat.lt_of_lt_of_le (show W.heap.size < (w15).heap.size from by exact HBa0z) (More.size (show More (w15) _ from mC))) (fun h => by have h1 := HBa0ltg _ h; omega) (HBa0 _ mC).2.2.2.2.1, turn_cell T17 (Nat.lt_of_lt_of_le (show W.heap.size < (w15).heap.size from by exact HBa0z) (More.size (show More (w15) _ from mC))) (fun h => by have h1 := HBa0ltg _ h; omega) (HBa0 _ mC).2.2.2.2.2.1, turn_cell T17 (Nat.lt_of_lt_of_le (show W.heap.size < (w15).heap.size from by exact HBa0z) (More.size (show More (w15) _ from mC))) (fun h => by have h1 := HBa0ltg _ h; omega) (HBa0 _ mC).2.2.2.2.2.2⟩
  have HByz' : w5.heap.size < w17.heap.size := Nat.lt_of_lt_of_le (Nat.lt_of_lt_of_le (show w5.heap.size < (w15).heap.size from by exact HByz) (More.size (show More (w15) _ from mC))) T17.size
  have HByk : w17.cell? ⟨w5.heap.size, 0, none⟩ = some (.int .i64 r.1.1) ∧ w17.cell? ⟨w5.heap.size, 1, none⟩ = some (.int .i64 r.1.2) ∧ w17.cell? ⟨w5.heap.size, 2, none⟩ = some (.int .i64 r.2.1.1) ∧ w17.cell? ⟨w5.heap.size, 3, none⟩ = some (.int .i64 r.2.1.2) ∧ w17.cell? ⟨w5.heap.size, 4, none⟩ = some (.slice yra4 yrn4 yrc4) ∧ w17.cell? ⟨w5.heap.size, 5, none⟩ = some (.slice yra5 yrn5 yrc5) ∧ w17.cell? ⟨w5.heap.size, 6, none⟩ = some (.slice yra6 yrn6 yrc6) := ⟨turn_cell T17 (Nat.lt_of_lt_of_le (show w5.heap.size < (w15).heap.size from by exact HByz) (More.size (show More (w15) _ from mC))) (fun h => by have h1 := HByltg _ h; omega) (HBy _ mC).1, turn_cell T17 (Nat.lt_of_lt_of_le (show w5.heap.size < (w15).heap.size from by exact HByz) (More.size (show More (w15) _ from mC))) (fun h => by have h1 := HByltg _ h; omega) (HBy _ mC).2.1, turn_cell T17 (Nat.lt_of_lt_of_le (show w5.heap.size < (w15).heap.size from by exact HByz) (More.size (show More (w15) _ from mC))) (fun h => by have h1 := HByltg _ h; omega) (HBy _ mC).2.2.1, turn_cell T17 (Nat.lt_of_lt_of_le (show w5.heap.size < (w15).heap.size from by exact HByz) (More.size (show More (w15) _ from mC))) (fun h => by have h1 := HByltg _ h; omega) (HBy _ mC).2.2.2.1, turn_cell T17 (Nat.lt_of_lt_of_le (show w5.heap.size < (w15).heap.size from by exact HByz) (More.size (show More (w15) _ from mC))) (fun h => by have h1 := HByltg _ h; omega) (HBy _ mC).2.2.2.2.1, turn_cell T17 (Nat.lt_of_lt_of_le (show w5.heap.size < (w15).heap.size from by exact HByz) (More.size (show More (w15) _ from mC))) (fun h => by have h1 := HByltg _ h; omega) (HBy _ mC).2.2.2.2.2.1, turn_cell T17 (Nat.lt_of_lt_of_le (show w5.heap.size < (w15).heap.size from by exact HByz) (More.size (show More (w15) _ from mC))) (fun h => by have h1 := HByltg _ h; omega) (HBy _ mC).2.2.2.2.2.2⟩
  have HBx0z' : w6.heap.size < w17.heap.size := Nat.lt_of_lt_of_le (Nat.lt_of_lt_of_le (show w6.heap.size < (w15).heap.size from by exact HBx0z) (More.size (show More (w15) _ from mC))) T17.size
  have HBx0k : w17.cell? ⟨w6.heap.size, 0, none⟩ = some (.int .i64 s.1.1) ∧ w17.cell? ⟨w6.heap.size, 1, none⟩ = some (.int .i64 s.1.2) ∧ w17.cell? ⟨w6.heap.size, 2, none⟩ = some (.int .i64 s.2.1.1) ∧ w17.cell? ⟨w6.heap.size, 3, none⟩ = some (.int .i64 s.2.1.2) ∧ w17.cell? ⟨w6.heap.size, 4, none⟩ = some (.slice x0za4 x0zn4 x0zc4) ∧ w17.cell? ⟨w6.heap.size, 5, none⟩ = some (.slice x0za5 x0zn5 x0zc5) ∧ w17.cell? ⟨w6.heap.size, 6, none⟩ = some (.slice x0za6 x0zn6 x0zc6) := ⟨turn_cell T17 (Nat.lt_of_lt_of_le (show w6.heap.size < (w15).heap.size from by exact HBx0z) (More.size (show More (w15) _ from mC))) (fun h => by have h1 := HBx0ltg _ h; omega) (HBx0 _ mC).1, turn_cell T17 (Nat.lt_of_lt_of_le (show w6.heap.size < (w15).heap.size from by exact HBx0z) (More.size (show More (w15) _ from mC))) (fun h => by have h1 := HBx0ltg _ h; omega) (HBx0 _ mC).2.1, turn_cell T17 (Nat.lt_of_lt_of_le (show w6.heap.size < (w15).heap.size from by exact HBx0z) (More.size (show More (w15) _ from mC))) (fun h => by have h1 := HBx0ltg _ h; omega) (HBx0 _ mC).2.2.1, turn_cell T17 (Nat.lt_of_lt_of_le (show w6.heap.size < (w15).heap.size from by exact HBx0z) (More.size (show More (w15) _ from mC))) (fun h => by have h1 := HBx0ltg _ h; omega) (HBx0 _ mC).2.2.2.1, turn_cell T17 (Nat.lt_of_lt_of_le (show w6.heap.size < (w15).heap.size from by exact HBx0z) (More.size (show More (w15) _ from mC))) (fun h => by have h1 := HBx0ltg _ h; omega) (HBx0 _ mC).2.2.2.2.1, turn_cell T17 (Nat.lt_of_lt_of_le (show w6.heap.size < (w15).heap.size from by exact HBx0z) (More.size (show More (w15) _ from mC))) (fun h => by have h1 := HBx0ltg _ h; omega) (HBx0 _ mC).2.2.2.2.2.1, turn_cell T17 (Nat.lt_of_lt_of_le (show w6.heap.size < (w15).heap.size from by exact HBx0z) (More.size (show More (w15) _ from mC))) (fun h => by have h1 := HBx0ltg _ h; omega) (HBx0 _ mC).2.2.2.2.2.2⟩
  have HBgz' : w8.heap.size < w17.heap.size := Nat.lt_of_lt_of_le (Nat.lt_of_lt_of_le (show w8.heap.size < (w15).heap.size from by exact HBgz) (More.size (show More (w15) _ from mC))) T17.size
  have HBgk : w17.cell? ⟨w8.heap.size, 0, none⟩ = some (.int .i64 r.1.1) ∧ w17.cell? ⟨w8.heap.size, 1, none⟩ = some (.int .i64 r.1.2) ∧ w17.cell? ⟨w8.heap.size, 2, none⟩ = some (.int .i64 r.2.1.1) ∧ w17.cell? ⟨w8.heap.size, 3, none⟩ = some (.int .i64 r.2.1.2) ∧ w17.cell? ⟨w8.heap.size, 4, none⟩ = some (.slice gra4 grn4 grc4) ∧ w17.cell? ⟨w8.heap.size, 5, none⟩ = some (.slice gra5 grn5 grc5) ∧ w17.cell? ⟨w8.heap.size, 6, none⟩ = some (.slice gra6 grn6 grc6) := ⟨turn_cell T17 (Nat.lt_of_lt_of_le (show w8.heap.size < (w15).heap.size from by exact HBgz) (More.size (show More (w15) _ from mC))) (fun h => by have h1 := HBggeg; have h2 := tScene.own_lt G _ h; omega) (HBg _ mC).1, turn_cell T17 (Nat.lt_of_lt_of_le (show w8.heap.size < (w15).heap.size from by exact HBgz) (More.size (show More (w15) _ from mC))) (fun h => by have h1 := HBggeg; have h2 := tScene.own_lt G _ h; omega) (HBg _ mC).2.1, turn_cell T17 (Nat.lt_of_lt_of_le (show w8.heap.size < (w15).heap.size from by exact HBgz) (More.size (show More (w15) _ from mC))) (fun h => by have h1 := HBggeg; have h2 := tScene.own_lt G _ h; omega) (HBg _ mC).2.2.1, turn_cell T17 (Nat.lt_of_lt_of_le (show w8.heap.size < (w15).heap.size from by exact HBgz) (More.size (show More (w15) _ from mC))) (fun h => by have h1 := HBggeg; have h2 := tScene.own_lt G _ h; omega) (HBg _ mC).2.2.2.1, turn_cell T17 (Nat.lt_of_lt_of_le (show w8.heap.size < (w15).heap.size from by exact HBgz) (More.size (show More (w15) _ from mC))) (fun h => by have h1 := HBggeg; have h2 := tScene.own_lt G _ h; omega) (HBg _ mC).2.2.2.2.1, turn_cell T17 (Nat.lt_of_lt_of_le (show w8.heap.size < (w15).heap.size from by exact HBgz) (More.size (show More (w15) _ from mC))) (fun h => by have h1 := HBggeg; have h2 := tScene.own_lt G _ h; omega) (HBg _ mC).2.2.2.2.2.1, turn_cell T17 (Nat.lt_of_lt_of_le (show w8.heap.size < (w15).heap.size from by exact HBgz) (More.size (show More (w15) _ from mC))) (fun h => by have h1 := HBggeg; have h2 := tScene.own_lt G _ h; omega) (HBg _ mC).2.2.2.2.2.2⟩
  have b17 := More.turn (b15.trans mC) T17 (fun k hk => Nat.le_trans (More.size (b6.trans mC)) (lg k hk))
  try clear HBa0_16
  try clear HBa0s16
  clear HBa0
  have HBa0 : ∀ w', More w17 w' → w'.cell? ⟨W.heap.size, 0, none⟩ = some (.int .i64 s.1.1) ∧ w'.cell? ⟨W.heap.size, 1, none⟩ = some (.int .i64 s.1.2) ∧ w'.cell? ⟨W.heap.size, 2, none⟩ = some (.int .i64 s.2.1.1) ∧ w'.cell? ⟨W.heap.size, 3, none⟩ = some (.int .i64 s.2.1.2) ∧ w'.cell? ⟨W.heap.size, 4, none⟩ = some (.slice s0a4 s0n4 s0c4) ∧ w'.cell? ⟨W.heap.size, 5, none⟩ = some (.slice s0a5 s0n5 s0c5) ∧ w'.cell? ⟨W.heap.size, 6, none⟩ = some (.slice s0a6 s0n6 s0c6) := fun w' h => ⟨box_keep h HBa0z' (HBa0k.1), box_keep h HBa0z' (HBa0k.2.1), box_keep h HBa0z' (HBa0k.2.2.1), box_keep h HBa0z' (HBa0k.2.2.2.1), box_keep h HBa0z' (HBa0k.2.2.2.2.1), box_keep h HBa0z' (HBa0k.2.2.2.2.2.1), box_keep h HBa0z' (HBa0k.2.2.2.2.2.2)⟩
  try clear HBa0z
  have HBa0z := HBa0z'; clear HBa0z' HBa0k
  have HBa0_17 := HBa0 w17 (More.refl _)
  have HBa0s17 := HBa0z
  try clear HBy_16
  try clear HBys16
  clear HBy
  have HBy : ∀ w', More w17 w' → w'.cell? ⟨w5.heap.size, 0, none⟩ = some (.int .i64 r.1.1) ∧ w'.cell? ⟨w5.heap.size, 1, none⟩ = some (.int .i64 r.1.2) ∧ w'.cell? ⟨w5.heap.size, 2, none⟩ = some (.int .i64 r.2.1.1) ∧ w'.cell? ⟨w5.heap.size, 3, none⟩ = some (.int .i64 r.2.1.2) ∧ w'.cell? ⟨w5.heap.size, 4, none⟩ = some (.slice yra4 yrn4 yrc4) ∧ w'.cell? ⟨w5.heap.size, 5, none⟩ = some (.slice yra5 yrn5 yrc5) ∧ w'.cell? ⟨w5.heap.size, 6, none⟩ = some (.slice yra6 yrn6 yrc6) := fun w' h => ⟨box_keep h HByz' (HByk.1), box_keep h HByz' (HByk.2.1), box_keep h HByz' (HByk.2.2.1), box_keep h HByz' (HByk.2.2.2.1), box_keep h HByz' (HByk.2.2.2.2.1), box_keep h HByz' (HByk.2.2.2.2.2.1), box_keep h HByz' (HByk.2.2.2.2.2.2)⟩
  try clear HByz
  have HByz := HByz'; clear HByz' HByk
  have HBy_17 := HBy w17 (More.refl _)
  have HBys17 := HByz
  try clear HBx0_16
  try clear HBx0s16
  clear HBx0
  have HBx0 : ∀ w', More w17 w' → w'.cell? ⟨w6.heap.size, 0, none⟩ = some (.int .i64 s.1.1) ∧ w'.cell? ⟨w6.heap.size, 1, none⟩ = some (.int .i64 s.1.2) ∧ w'.cell? ⟨w6.heap.size, 2, none⟩ = some (.int .i64 s.2.1.1) ∧ w'.cell? ⟨w6.heap.size, 3, none⟩ = some (.int .i64 s.2.1.2) ∧ w'.cell? ⟨w6.heap.size, 4, none⟩ = some (.slice x0za4 x0zn4 x0zc4) ∧ w'.cell? ⟨w6.heap.size, 5, none⟩ = some (.slice x0za5 x0zn5 x0zc5) ∧ w'.cell? ⟨w6.heap.size, 6, none⟩ = some (.slice x0za6 x0zn6 x0zc6) := fun w' h => ⟨box_keep h HBx0z' (HBx0k.1), box_keep h HBx0z' (HBx0k.2.1), box_keep h HBx0z' (HBx0k.2.2.1), box_keep h HBx0z' (HBx0k.2.2.2.1), box_keep h HBx0z' (HBx0k.2.2.2.2.1), box_keep h HBx0z' (HBx0k.2.2.2.2.2.1), box_keep h HBx0z' (HBx0k.2.2.2.2.2.2)⟩
  try clear HBx0z
  have HBx0z := HBx0z'; clear HBx0z' HBx0k
  have HBx0_17 := HBx0 w17 (More.refl _)
  have HBx0s17 := HBx0z
  try clear HBg_16
  try clear HBgs16
  clear HBg
  have HBg : ∀ w', More w17 w' → w'.cell? ⟨w8.heap.size, 0, none⟩ = some (.int .i64 r.1.1) ∧ w'.cell? ⟨w8.heap.size, 1, none⟩ = some (.int .i64 r.1.2) ∧ w'.cell? ⟨w8.heap.size, 2, none⟩ = some (.int .i64 r.2.1.1) ∧ w'.cell? ⟨w8.heap.size, 3, none⟩ = some (.int .i64 r.2.1.2) ∧ w'.cell? ⟨w8.heap.size, 4, none⟩ = some (.slice gra4 grn4 grc4) ∧ w'.cell? ⟨w8.heap.size, 5, none⟩ = some (.slice gra5 grn5 grc5) ∧ w'.cell? ⟨w8.heap.size, 6, none⟩ = some (.slice gra6 grn6 grc6) := fun w' h => ⟨box_keep h HBgz' (HBgk.1), box_keep h HBgz' (HBgk.2.1), box_keep h HBgz' (HBgk.2.2.1), box_keep h HBgz' (HBgk.2.2.2.1), box_keep h HBgz' (HBgk.2.2.2.2.1), box_keep h HBgz' (HBgk.2.2.2.2.2.1), box_keep h HBgz' (HBgk.2.2.2.2.2.2)⟩
  try clear HBgz
  have HBgz := HBgz'; clear HBgz' HBgk
  have HBg_17 := HBg w17 (More.refl _)
  have HBgs17 := HBgz
  go_wp2_with fail
  refine (laws_heldScene_ _ r _ _ (Ty.at_more (Ty.rd_at (tScene.own_rd M17)) mC) (by decide) (by have := HrC.out; omega) HrL.out).mono ?_
  rintro e w18 ⟨rfl, b18⟩
  have HBa0_18 := HBa0 w18 mC
  have HBa0s18 : W.heap.size < w18.heap.size := by have := More.size (show More w17 w18 from mC); have := HBa0z; omega
  try clear HBa0_17
  try clear HBa0s17
  have HBy_18 := HBy w18 mC
  have HBys18 : w5.heap.size < w18.heap.size := by have := More.size (show More w17 w18 from mC); have := HByz; omega
  try clear HBy_17
  try clear HBys17
  have HBx0_18 := HBx0 w18 mC
  have HBx0s18 : w6.heap.size < w18.heap.size := by have := More.size (show More w17 w18 from mC); have := HBx0z; omega
  try clear HBx0_17
  try clear HBx0s17
  have HBg_18 := HBg w18 mC
  have HBgs18 : w8.heap.size < w18.heap.size := by have := More.size (show More w17 w18 from mC); have := HBgz; omega
  try clear HBg_17
  try clear HBgs17
  have q18 : ¬ ((1 : Int) + ((cScene r : Nat) : Int) < 0) := by omega
  go_wp2_with fail
  refine (laws_toScene _ s _ (Ty.at_more HV0.out mC) Hs0.out).mono ?_
  rintro e w19 ⟨z0, rfl, b19, Fz0⟩
  have HBa0_19 := HBa0 w19 mC
  have HBa0s19 : W.heap.size < w19.heap.size := by have := More.size (show More w17 w19 from mC); have := HBa0z; omega
  try clear HBa0_18
  try clear HBa0s18
  have HBy_19 := HBy w19 mC
  have HBys19 : w5.heap.size < w19.heap.size := by have := More.size (show More w17 w19 from mC); have := HByz; omega
  try clear HBy_18
  try clear HBys18
  have HBx0_19 := HBx0 w19 mC
  have HBx0s19 : w6.heap.size < w19.heap.size := by have := More.size (show More w17 w19 from mC); have := HBx0z; omega
  try clear HBx0_18
  try clear HBx0s18
  have HBg_19 := HBg w19 mC
  have HBgs19 : w8.heap.size < w19.heap.size := by have := More.size (show More w17 w19 from mC); have := HBgz; omega
  try clear HBg_18
  try clear HBgs18
  obtain ⟨z0za4, z0zn4, z0zc4, z0za5, z0zn5, z0zc5, z0za6, z0zn6, z0zc6, rfl⟩ := sh_Scene (Ty.fresh_at Fz0)
  go_wp2_with fail
  refine (laws_toVecS _ l _ (Ty.at_more HV1.out mC) Hs1.out).mono ?_
  rintro e w20 ⟨z1, rfl, b20, Fz1⟩
  have HBa0_20 := HBa0 w20 mC
  have HBa0s20 : W.heap.size < w20.heap.size := by have := More.size (show More w17 w20 from mC); have := HBa0z; omega
  try clear HBa0_19
  try clear HBa0s19
  have HBy_20 := HBy w20 mC
  have HBys20 : w5.heap.size < w20.heap.size := by have := More.size (show More w17 w20 from mC); have := HByz; omega
  try clear HBy_19
  try clear HBys19
  have HBx0_20 := HBx0 w20 mC
  have HBx0s20 : w6.heap.size < w20.heap.size := by have := More.size (show More w17 w20 from mC); have := HBx0z; omega
  try clear HBx0_19
  try clear HBx0s19
  have HBg_20 := HBg w20 mC
  have HBgs20 : w8.heap.size < w20.heap.size := by have := More.size (show More w17 w20 from mC); have := HBgz; omega
  try clear HBg_19
  try clear HBgs19
  go_wp2_with fail
  refine (impl_AddObstacleL _ s _ l _ (Ty.at_more (Ty.fresh_at Fz0) mC) (by have h1 := Hs0.out; have h2 := Hn1.out; omega) (Ty.at_more (Ty.fresh_at Fz1) mC)).mono ?_
  rintro e w21 ⟨h, rfl, b21, Fh⟩
  rw [← ER.out] at Fh
  rw [← EF0.out]
  obtain ⟨hra4, hrn4, hrc4, hra5, hrn5, hrc5, hra6, hrn6, hrc6, rfl⟩ := sh_Scene (Ty.fresh_at Fh)
  have HBa0_21 := HBa0 w21 mC
  have HBa0s21 : W.heap.size < w21.heap.size := by have := More.size (show More w17 w21 from mC); have := HBa0z; omega
  try clear HBa0_20
  try clear HBa0s20
  have HBy_21 := HBy w21 mC
  have HBys21 : w5.heap.size < w21.heap.size := by have := More.size (show More w17 w21 from mC); have := HByz; omega
  try clear HBy_20
  try clear HBys20
  have HBx0_21 := HBx0 w21 mC
  have HBx0s21 : w6.heap.size < w21.heap.size := by have := More.size (show More w17 w21 from mC); have := HBx0z; omega
  try clear HBx0_20
  try clear HBx0s20
  have HBg_21 := HBg w21 mC
  have HBgs21 : w8.heap.size < w21.heap.size := by have := More.size (show More w17 w21 from mC); have := HBgz; omega
  try clear HBg_20
  try clear HBgs20
  have HBh : ∀ w', More (w21.alloc (.cells #[.int .i64 r.1.1, .int .i64 r.1.2, .int .i64 r.2.1.1, .int .i64 r.2.1.2, .slice hra4 hrn4 hrc4, .slice hra5 hrn5 hrc5, .slice hra6 hrn6 hrc6] 34)) w' → w'.cell? ⟨w21.heap.size, 0, none⟩ = some (.int .i64 r.1.1) ∧ w'.cell? ⟨w21.heap.size, 1, none⟩ = some (.int .i64 r.1.2) ∧ w'.cell? ⟨w21.heap.size, 2, none⟩ = some (.int .i64 r.2.1.1) ∧ w'.cell? ⟨w21.heap.size, 3, none⟩ = some (.int .i64 r.2.1.2) ∧ w'.cell? ⟨w21.heap.size, 4, none⟩ = some (.slice hra4 hrn4 hrc4) ∧ w'.cell? ⟨w21.heap.size, 5, none⟩ = some (.slice hra5 hrn5 hrc5) ∧ w'.cell? ⟨w21.heap.size, 6, none⟩ = some (.slice hra6 hrn6 hrc6) := fun w' h => ⟨box_new (by simp) h 0, box_new (by simp) h 1, box_new (by simp) h 2, box_new (by simp) h 3, box_new (by simp) h 4, box_new (by simp) h 5, box_new (by simp) h 6⟩
  go_wp2_with fail
  refine (laws_eqScene _ _ r _ (Ty.at_more (Ty.fresh_at Fh) mC) (Ty.at_more Fy mC) HrL.out).mono ?_
  rintro e w22 ⟨rfl, b22⟩
  have HBa0_22 := HBa0 w22 mC
  have HBa0s22 : W.heap.size < w22.heap.size := by have := More.size (show More w17 w22 from mC); have := HBa0z; omega
  try clear HBa0_21
  try clear HBa0s21
  have HBy_22 := HBy w22 mC
  have HBys22 : w5.heap.size < w22.heap.size := by have := More.size (show More w17 w22 from mC); have := HByz; omega
  try clear HBy_21
  try clear HBys21
  have HBx0_22 := HBx0 w22 mC
  have HBx0s22 : w6.heap.size < w22.heap.size := by have := More.size (show More w17 w22 from mC); have := HBx0z; omega
  try clear HBx0_21
  try clear HBx0s21
  have HBg_22 := HBg w22 mC
  have HBgs22 : w8.heap.size < w22.heap.size := by have := More.size (show More w17 w22 from mC); have := HBgz; omega
  try clear HBg_21
  try clear HBgs21
  have HBh_22 := HBh w22 mC
  have HBhs22 : w21.heap.size < w22.heap.size := by have := More.size (show More (w21.alloc (.cells #[.int .i64 r.1.1, .int .i64 r.1.2, .int .i64 r.2.1.1, .int .i64 r.2.1.2, .slice hra4 hrn4 hrc4, .slice hra5 hrn5 hrc5, .slice hra6 hrn6 hrc6] 34)) w22 from mC); simp at this; omega
  try clear HBh_21
  try clear HBhs21
  go_wp2_with fail
  refine (laws_heldScene_ _ r _ _ (Ty.at_more (Ty.rd_at (tScene.own_rd M17)) mC) (by decide) (by have := HrC.out; omega) HrL.out).mono ?_
  rintro e w23 ⟨rfl, b23⟩
  have HBa0_23 := HBa0 w23 mC
  have HBa0s23 : W.heap.size < w23.heap.size := by have := More.size (show More w17 w23 from mC); have := HBa0z; omega
  try clear HBa0_22
  try clear HBa0s22
  have HBy_23 := HBy w23 mC
  have HBys23 : w5.heap.size < w23.heap.size := by have := More.size (show More w17 w23 from mC); have := HByz; omega
  try clear HBy_22
  try clear HBys22
  have HBx0_23 := HBx0 w23 mC
  have HBx0s23 : w6.heap.size < w23.heap.size := by have := More.size (show More w17 w23 from mC); have := HBx0z; omega
  try clear HBx0_22
  try clear HBx0s22
  have HBg_23 := HBg w23 mC
  have HBgs23 : w8.heap.size < w23.heap.size := by have := More.size (show More w17 w23 from mC); have := HBgz; omega
  try clear HBg_22
  try clear HBgs22
  have HBh_23 := HBh w23 mC
  have HBhs23 : w21.heap.size < w23.heap.size := by have := More.size (show More (w21.alloc (.cells #[.int .i64 r.1.1, .int .i64 r.1.2, .int .i64 r.2.1.1, .int .i64 r.2.1.2, .slice hra4 hrn4 hrc4, .slice hra5 hrn5 hrc5, .slice hra6 hrn6 hrc6] 34)) w23 from mC); simp at this; omega
  try clear HBh_22
  try clear HBhs22
  have q23 : ¬ ((1 : Int) + ((cScene r : Nat) : Int) < 0) := by omega
  go_wp2_with fail
  go_ret
  exact ⟨rfl, mC⟩
end Go.Proofs.Ytnndjbomfcacfaa
