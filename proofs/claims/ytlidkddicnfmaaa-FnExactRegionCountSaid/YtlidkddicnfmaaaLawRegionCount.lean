/- FnExactRegionCount returns true, for every input. -/
import Derived.Test.YtlidkddicnfmaaaRgc
import Derived.Test.YtlidkddicnfmaaaSzRoad
import Derived.Test.YtlidkddicnfmaaaToRoad
import Derived.Test.YtlidkddicnfmaaaEqRoad
import Derived.Deep.RegionHeld3
namespace Go.Proofs.Ytlidkddicnfmaaa
open Go.RowKit
set_option maxHeartbeats 3200000 in
theorem law_RegionCount {W : World} (ca0 : Array Value) (x : QRoad) (hv0 : tRoad.at W ca0.toList x) :
    Calls Try.prog 10 #[.agg ca0] W fun e w' => e = .returned (.bool true) ∧ More W w' := by
  obtain ⟨s0a4, s0n4, s0c4, s0a5, s0n5, s0c5, s0a6, s0n6, s0c6, s0a7, s0n7, s0c7, s0a8, s0n8, s0c8, s0a9, s0n9, s0c9, es0⟩ := sh_Road hv0
  rw [es0] at hv0
  obtain rfl := arr_of es0
  clear es0
  have HV0 := Lib.hid hv0; clear hv0
  by_cases hn0 : ((wRoad x : Nat) : Int) ≤ 1048576
  rotate_left
  · have Hbad := Lib.hid hn0; clear hn0
    have HX : More (W.alloc (.cells #[.int .i64 x.1.1.1, .int .i64 x.1.1.2, .int .i64 x.1.2.1.1, .int .i64 x.1.2.1.2, .slice s0a4 s0n4 s0c4, .slice s0a5 s0n5 s0c5, .slice s0a6 s0n6 s0c6, .slice s0a7 s0n7 s0c7, .slice s0a8 s0n8 s0c8, .slice s0a9 s0n9 s0c9] 80)) (W.alloc (.cells #[.int .i64 x.1.1.1, .int .i64 x.1.1.2, .int .i64 x.1.2.1.1, .int .i64 x.1.2.1.2, .slice s0a4 s0n4 s0c4, .slice s0a5 s0n5 s0c5, .slice s0a6 s0n6 s0c6, .slice s0a7 s0n7 s0c7, .slice s0a8 s0n8 s0c8, .slice s0a9 s0n9 s0c9] 80)) := More.refl _
    have HB : ∀ w', More (W.alloc (.cells #[.int .i64 x.1.1.1, .int .i64 x.1.1.2, .int .i64 x.1.2.1.1, .int .i64 x.1.2.1.2, .slice s0a4 s0n4 s0c4, .slice s0a5 s0n5 s0c5, .slice s0a6 s0n6 s0c6, .slice s0a7 s0n7 s0c7, .slice s0a8 s0n8 s0c8, .slice s0a9 s0n9 s0c9] 80)) w' → w'.cell? ⟨W.heap.size, 0, none⟩ = some (.int .i64 x.1.1.1) ∧ w'.cell? ⟨W.heap.size, 1, none⟩ = some (.int .i64 x.1.1.2) ∧ w'.cell? ⟨W.heap.size, 2, none⟩ = some (.int .i64 x.1.2.1.1) ∧ w'.cell? ⟨W.heap.size, 3, none⟩ = some (.int .i64 x.1.2.1.2) ∧ w'.cell? ⟨W.heap.size, 4, none⟩ = some (.slice s0a4 s0n4 s0c4) ∧ w'.cell? ⟨W.heap.size, 5, none⟩ = some (.slice s0a5 s0n5 s0c5) ∧ w'.cell? ⟨W.heap.size, 6, none⟩ = some (.slice s0a6 s0n6 s0c6) ∧ w'.cell? ⟨W.heap.size, 7, none⟩ = some (.slice s0a7 s0n7 s0c7) ∧ w'.cell? ⟨W.heap.size, 8, none⟩ = some (.slice s0a8 s0n8 s0c8) ∧ w'.cell? ⟨W.heap.size, 9, none⟩ = some (.slice s0a9 s0n9 s0c9) ∧ (∀ j, w'.frozen? ⟨W.heap.size, j, none⟩ = false) := fun w' h => ⟨box_new (by simp) h 0, box_new (by simp) h 1, box_new (by simp) h 2, box_new (by simp) h 3, box_new (by simp) h 4, box_new (by simp) h 5, box_new (by simp) h 6, box_new (by simp) h 7, box_new (by simp) h 8, box_new (by simp) h 9, fun j => box_free (by simp) h j⟩
    go_enter Try.func10, Try.ntmps10
    go_wp2_with fail
    refine (laws_szRoad _ x _ _ (Ty.at_more HV0.out mC) (by decide) (by decide)).mono ?_
    rintro e w1 ⟨rfl, b1⟩
    have HXa1 : Hid (More ((W.alloc (.cells #[.int .i64 x.1.1.1, .int .i64 x.1.1.2, .int .i64 x.1.2.1.1, .int .i64 x.1.2.1.2, .slice s0a4 s0n4 s0c4, .slice s0a5 s0n5 s0c5, .slice s0a6 s0n6 s0c6, .slice s0a7 s0n7 s0c7, .slice s0a8 s0n8 s0c8, .slice s0a9 s0n9 s0c9] 80))) w1) := Lib.hid mC
    have HBw1 := HB _ HXa1.out
    have hsHB1_0 : W.heap.size < w1.heap.size := by have := (HXa1.out).size; simp at this; omega
    rw [szI_neg (by have := Hbad.out; omega)]
    go_wp2_with fail
    go_ret
    exact ⟨rfl, mC⟩
  have Hn0 := Lib.hid hn0
  have Hs0 : Hid (wRoad x ≤ 1048576) := Lib.hid (by omega)
  clear hn0
  have HX : More (W.alloc (.cells #[.int .i64 x.1.1.1, .int .i64 x.1.1.2, .int .i64 x.1.2.1.1, .int .i64 x.1.2.1.2, .slice s0a4 s0n4 s0c4, .slice s0a5 s0n5 s0c5, .slice s0a6 s0n6 s0c6, .slice s0a7 s0n7 s0c7, .slice s0a8 s0n8 s0c8, .slice s0a9 s0n9 s0c9] 80)) (W.alloc (.cells #[.int .i64 x.1.1.1, .int .i64 x.1.1.2, .int .i64 x.1.2.1.1, .int .i64 x.1.2.1.2, .slice s0a4 s0n4 s0c4, .slice s0a5 s0n5 s0c5, .slice s0a6 s0n6 s0c6, .slice s0a7 s0n7 s0c7, .slice s0a8 s0n8 s0c8, .slice s0a9 s0n9 s0c9] 80)) := More.refl _
  have HB : ∀ w', More (W.alloc (.cells #[.int .i64 x.1.1.1, .int .i64 x.1.1.2, .int .i64 x.1.2.1.1, .int .i64 x.1.2.1.2, .slice s0a4 s0n4 s0c4, .slice s0a5 s0n5 s0c5, .slice s0a6 s0n6 s0c6, .slice s0a7 s0n7 s0c7, .slice s0a8 s0n8 s0c8, .slice s0a9 s0n9 s0c9] 80)) w' → w'.cell? ⟨W.heap.size, 0, none⟩ = some (.int .i64 x.1.1.1) ∧ w'.cell? ⟨W.heap.size, 1, none⟩ = some (.int .i64 x.1.1.2) ∧ w'.cell? ⟨W.heap.size, 2, none⟩ = some (.int .i64 x.1.2.1.1) ∧ w'.cell? ⟨W.heap.size, 3, none⟩ = some (.int .i64 x.1.2.1.2) ∧ w'.cell? ⟨W.heap.size, 4, none⟩ = some (.slice s0a4 s0n4 s0c4) ∧ w'.cell? ⟨W.heap.size, 5, none⟩ = some (.slice s0a5 s0n5 s0c5) ∧ w'.cell? ⟨W.heap.size, 6, none⟩ = some (.slice s0a6 s0n6 s0c6) ∧ w'.cell? ⟨W.heap.size, 7, none⟩ = some (.slice s0a7 s0n7 s0c7) ∧ w'.cell? ⟨W.heap.size, 8, none⟩ = some (.slice s0a8 s0n8 s0c8) ∧ w'.cell? ⟨W.heap.size, 9, none⟩ = some (.slice s0a9 s0n9 s0c9) ∧ (∀ j, w'.frozen? ⟨W.heap.size, j, none⟩ = false) := fun w' h => ⟨box_new (by simp) h 0, box_new (by simp) h 1, box_new (by simp) h 2, box_new (by simp) h 3, box_new (by simp) h 4, box_new (by simp) h 5, box_new (by simp) h 6, box_new (by simp) h 7, box_new (by simp) h 8, box_new (by simp) h 9, fun j => box_free (by simp) h j⟩
  go_enter Try.func10, Try.ntmps10
  go_wp2_with fail
  refine (laws_szRoad _ x _ _ (Ty.at_more HV0.out mC) (by decide) (by decide)).mono ?_
  rintro e w1 ⟨rfl, b1⟩
  have HXa1 : Hid (More ((W.alloc (.cells #[.int .i64 x.1.1.1, .int .i64 x.1.1.2, .int .i64 x.1.2.1.1, .int .i64 x.1.2.1.2, .slice s0a4 s0n4 s0c4, .slice s0a5 s0n5 s0c5, .slice s0a6 s0n6 s0c6, .slice s0a7 s0n7 s0c7, .slice s0a8 s0n8 s0c8, .slice s0a9 s0n9 s0c9] 80))) w1) := Lib.hid mC
  have HBw1 := HB _ HXa1.out
  have hsHB1_0 : W.heap.size < w1.heap.size := by have := (HXa1.out).size; simp at this; omega
  rw [szI_pos (by have := Hn0.out; omega)]
  have z0 : 0 ≤ (1048576 : Int) - (wRoad x : Nat) := by have := Hn0.out; omega
  go_wp2_with fail
  refine (laws_toRoad _ x _ (Ty.at_more HV0.out mC) Hs0.out).mono ?_
  rintro e w2 ⟨c0, rfl, b2, Fc0⟩
  have HXa2 : Hid (More ((W.alloc (.cells #[.int .i64 x.1.1.1, .int .i64 x.1.1.2, .int .i64 x.1.2.1.1, .int .i64 x.1.2.1.2, .slice s0a4 s0n4 s0c4, .slice s0a5 s0n5 s0c5, .slice s0a6 s0n6 s0c6, .slice s0a7 s0n7 s0c7, .slice s0a8 s0n8 s0c8, .slice s0a9 s0n9 s0c9] 80))) w2) := Lib.hid mC
  have HBw2 := HB _ HXa2.out
  have hsHB2_0 : W.heap.size < w2.heap.size := by have := (HXa2.out).size; simp at this; omega
  try clear HBw1
  obtain ⟨c0za4, c0zn4, c0zc4, c0za5, c0zn5, c0zc5, c0za6, c0zn6, c0zc6, c0za7, c0zn7, c0zc7, c0za8, c0zn8, c0zc8, c0za9, c0zn9, c0zc9, rfl⟩ := sh_Road (Ty.fresh_at Fc0)
  go_wp2_with fail
  refine (spec_RegionCount _ x _ (Ty.at_more (Ty.fresh_at Fc0) mC) Hs0.out).mono ?_
  rintro e w3 ⟨rfl, b3⟩
  have HXa3 : Hid (More ((W.alloc (.cells #[.int .i64 x.1.1.1, .int .i64 x.1.1.2, .int .i64 x.1.2.1.1, .int .i64 x.1.2.1.2, .slice s0a4 s0n4 s0c4, .slice s0a5 s0n5 s0c5, .slice s0a6 s0n6 s0c6, .slice s0a7 s0n7 s0c7, .slice s0a8 s0n8 s0c8, .slice s0a9 s0n9 s0c9] 80))) w3) := Lib.hid mC
  have HBw3 := HB _ HXa3.out
  have hsHB3_0 : W.heap.size < w3.heap.size := by have := (HXa3.out).size; simp at this; omega
  try clear HBw2
  go_wp2_with fail
  refine (laws_toRoad _ x _ (Ty.at_more HV0.out mC) Hs0.out).mono ?_
  rintro e w4 ⟨x0, rfl, b4, Fx0⟩
  have HXa4 : Hid (More ((W.alloc (.cells #[.int .i64 x.1.1.1, .int .i64 x.1.1.2, .int .i64 x.1.2.1.1, .int .i64 x.1.2.1.2, .slice s0a4 s0n4 s0c4, .slice s0a5 s0n5 s0c5, .slice s0a6 s0n6 s0c6, .slice s0a7 s0n7 s0c7, .slice s0a8 s0n8 s0c8, .slice s0a9 s0n9 s0c9] 80))) w4) := Lib.hid mC
  have HBw4 := HB _ HXa4.out
  have hsHB4_0 : W.heap.size < w4.heap.size := by have := (HXa4.out).size; simp at this; omega
  try clear HBw3
  obtain ⟨x0za4, x0zn4, x0zc4, x0za5, x0zn5, x0zc5, x0za6, x0zn6, x0zc6, x0za7, x0zn7, x0zc7, x0za8, x0zn8, x0zc8, x0za9, x0zn9, x0zc9, rfl⟩ := sh_Road (Ty.fresh_at Fx0)
  have HBx0 : ∀ w', More (w4.alloc (.cells #[.int .i64 x.1.1.1, .int .i64 x.1.1.2, .int .i64 x.1.2.1.1, .int .i64 x.1.2.1.2, .slice x0za4 x0zn4 x0zc4, .slice x0za5 x0zn5 x0zc5, .slice x0za6 x0zn6 x0zc6, .slice x0za7 x0zn7 x0zc7, .slice x0za8 x0zn8 x0zc8, .slice x0za9 x0zn9 x0zc9] 85)) w' → w'.cell? ⟨w4.heap.size, 0, none⟩ = some (.int .i64 x.1.1.1) ∧ w'.cell? ⟨w4.heap.size, 1, none⟩ = some (.int .i64 x.1.1.2) ∧ w'.cell? ⟨w4.heap.size, 2, none⟩ = some (.int .i64 x.1.2.1.1) ∧ w'.cell? ⟨w4.heap.size, 3, none⟩ = some (.int .i64 x.1.2.1.2) ∧ w'.cell? ⟨w4.heap.size, 4, none⟩ = some (.slice x0za4 x0zn4 x0zc4) ∧ w'.cell? ⟨w4.heap.size, 5, none⟩ = some (.slice x0za5 x0zn5 x0zc5) ∧ w'.cell? ⟨w4.heap.size, 6, none⟩ = some (.slice x0za6 x0zn6 x0zc6) ∧ w'.cell? ⟨w4.heap.size, 7, none⟩ = some (.slice x0za7 x0zn7 x0zc7) ∧ w'.cell? ⟨w4.heap.size, 8, none⟩ = some (.slice x0za8 x0zn8 x0zc8) ∧ w'.cell? ⟨w4.heap.size, 9, none⟩ = some (.slice x0za9 x0zn9 x0zc9) := fun w' h => ⟨box_new rfl h 0, box_new rfl h 1, box_new rfl h 2, box_new rfl h 3, box_new rfl h 4, box_new rfl h 5, box_new rfl h 6, box_new rfl h 7, box_new rfl h 8, box_new rfl h 9⟩
  go_wp2_with fail
  refine (impl_RegionCount _ x _ (Ty.at_more (Ty.fresh_at Fx0) mC) Hs0.out).mono ?_
  rintro e w5 ⟨rfl, b5⟩
  have HXa5 : Hid (More ((W.alloc (.cells #[.int .i64 x.1.1.1, .int .i64 x.1.1.2, .int .i64 x.1.2.1.1, .int .i64 x.1.2.1.2, .slice s0a4 s0n4 s0c4, .slice s0a5 s0n5 s0c5, .slice s0a6 s0n6 s0c6, .slice s0a7 s0n7 s0c7, .slice s0a8 s0n8 s0c8, .slice s0a9 s0n9 s0c9] 80))) w5) := Lib.hid mC
  have HBw5 := HB _ HXa5.out
  have hsHB5_0 : W.heap.size < w5.heap.size := by have := (HXa5.out).size; simp at this; omega
  try clear HBw4
  have HXx0_5 : Hid (More (w4.alloc (.cells #[.int .i64 x.1.1.1, .int .i64 x.1.1.2, .int .i64 x.1.2.1.1, .int .i64 x.1.2.1.2, .slice x0za4 x0zn4 x0zc4, .slice x0za5 x0zn5 x0zc5, .slice x0za6 x0zn6 x0zc6, .slice x0za7 x0zn7 x0zc7, .slice x0za8 x0zn8 x0zc8, .slice x0za9 x0zn9 x0zc9] 85)) w5) := Lib.hid mC
  have HBx0w5 := HBx0 _ HXx0_5.out
  have hsHBx05_0 : w4.heap.size < w5.heap.size := by have := (HXx0_5.out).size; simp at this; omega
  try clear HBx0w4
  go_wp2_with fail
  have RHB := fun (w' : World) (h : More w5 w') => HB w' (More.trans HXa5.out h)
  clear HBw5
  have RHBx0 := fun (w' : World) (h : More w5 w') => HBx0 w' (More.trans HXx0_5.out h)
  clear HBx0w5
  go_region_held3 (fun w' => More w5 w') (first | exact More.refl _ | exact mC) (first | (go_at_call 45; (with_reducible refine (laws_toRoad _ x _ (Ty.at_more HV0.out mC) Hs0.out).mono ?_); rintro e w6 ⟨t0, rfl, b6, Ft0⟩; obtain ⟨t0za4, t0zn4, t0zc4, t0za5, t0zn5, t0zc5, t0za6, t0zn6, t0zc6, t0za7, t0zn7, t0zc7, t0za8, t0zn8, t0zc8, t0za9, t0zn9, t0zc9, rfl⟩ := sh_Road (Ty.fresh_at Ft0)) | (go_at_call 47; (with_reducible refine (laws_eqRoad _ _ x _ (Ty.at_more (Ty.fresh_at Fx0) mC) (Ty.at_more (Ty.fresh_at Ft0) (Turns.more (by ((repeat (first | (with_reducible apply Turns.drew) | (with_reducible apply Turns.drewN) | (with_reducible apply Turns.alloc))); exact Turns.refl _ _)))) Hs0.out).mono ?_); rintro e w7 ⟨rfl, b7⟩))
  clear RHB
  clear RHBx0
  have HXa7 : Hid (More ((W.alloc (.cells #[.int .i64 x.1.1.1, .int .i64 x.1.1.2, .int .i64 x.1.2.1.1, .int .i64 x.1.2.1.2, .slice s0a4 s0n4 s0c4, .slice s0a5 s0n5 s0c5, .slice s0a6 s0n6 s0c6, .slice s0a7 s0n7 s0c7, .slice s0a8 s0n8 s0c8, .slice s0a9 s0n9 s0c9] 80))) w7) := Lib.hid mC
  have HBw7 := HB _ HXa7.out
  have hsHB7_0 : W.heap.size < w7.heap.size := by have := (HXa7.out).size; simp at this; omega
  try clear HBw6
  have HXx0_7 : Hid (More (w4.alloc (.cells #[.int .i64 x.1.1.1, .int .i64 x.1.1.2, .int .i64 x.1.2.1.1, .int .i64 x.1.2.1.2, .slice x0za4 x0zn4 x0zc4, .slice x0za5 x0zn5 x0zc5, .slice x0za6 x0zn6 x0zc6, .slice x0za7 x0zn7 x0zc7, .slice x0za8 x0zn8 x0zc8, .slice x0za9 x0zn9 x0zc9] 85)) w7) := Lib.hid mC
  have HBx0w7 := HBx0 _ HXx0_7.out
  have hsHBx07_0 : w4.heap.size < w7.heap.size := by have := (HXx0_7.out).size; simp at this; omega
  try clear HBx0w6
  go_wp2_with fail
  go_ret
  exact ⟨rfl, mC⟩
end Go.Proofs.Ytlidkddicnfmaaa
