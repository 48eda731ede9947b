/- FnExactSameRoad returns true, for every input. -/
import Derived.Test.YtbbibfeblaocfaaEqRr
import Derived.Test.YtbbibfeblaocfaaSzRoad
import Derived.Test.YtbbibfeblaocfaaToRoad
import Derived.Test.YtbbibfeblaocfaaEqRoad
import Derived.Deep.RegionHeld3
namespace Go.Proofs.Ytbbibfeblaocfaa
open Go.RowKit
set_option maxHeartbeats 3200000 in
theorem law_SameRoad {W : World} (ca0 : Array Value) (x : QRoad) (hv0 : tRoad.at W ca0.toList x) (ca1 : Array Value) (y : QRoad) (hv1 : tRoad.at W ca1.toList y) :
    Calls Try.prog 6 #[.agg ca0, .agg ca1] W fun e w' => e = .returned (.bool true) ∧ More W w' := by
  obtain ⟨s0a4, s0n4, s0c4, s0a5, s0n5, s0c5, s0a6, s0n6, s0c6, s0a7, s0n7, s0c7, s0a8, s0n8, s0c8, s0a9, s0n9, s0c9, es0⟩ := sh_Road hv0
  rw [es0] at hv0
  obtain rfl := arr_of es0
  clear es0
  have HV0 := Lib.hid hv0; clear hv0
  obtain ⟨s1a4, s1n4, s1c4, s1a5, s1n5, s1c5, s1a6, s1n6, s1c6, s1a7, s1n7, s1c7, s1a8, s1n8, s1c8, s1a9, s1n9, s1c9, es1⟩ := sh_Road hv1
  rw [es1] at hv1
  obtain rfl := arr_of es1
  clear es1
  have HV1 := Lib.hid hv1; clear hv1
  by_cases hn0 : ((wRoad x : Nat) : Int) ≤ 1048576
  rotate_left
  · have Hbad := Lib.hid hn0; clear hn0
    have HX : More ((W.alloc (.cells #[.int .i64 x.1.1.1, .int .i64 x.1.1.2, .int .i64 x.1.2.1.1, .int .i64 x.1.2.1.2, .slice s0a4 s0n4 s0c4, .slice s0a5 s0n5 s0c5, .slice s0a6 s0n6 s0c6, .slice s0a7 s0n7 s0c7, .slice s0a8 s0n8 s0c8, .slice s0a9 s0n9 s0c9] 75)).alloc (.cells #[.int .i64 y.1.1.1, .int .i64 y.1.1.2, .int .i64 y.1.2.1.1, .int .i64 y.1.2.1.2, .slice s1a4 s1n4 s1c4, .slice s1a5 s1n5 s1c5, .slice s1a6 s1n6 s1c6, .slice s1a7 s1n7 s1c7, .slice s1a8 s1n8 s1c8, .slice s1a9 s1n9 s1c9] 75)) ((W.alloc (.cells #[.int .i64 x.1.1.1, .int .i64 x.1.1.2, .int .i64 x.1.2.1.1, .int .i64 x.1.2.1.2, .slice s0a4 s0n4 s0c4, .slice s0a5 s0n5 s0c5, .slice s0a6 s0n6 s0c6, .slice s0a7 s0n7 s0c7, .slice s0a8 s0n8 s0c8, .slice s0a9 s0n9 s0c9] 75)).alloc (.cells #[.int .i64 y.1.1.1, .int .i64 y.1.1.2, .int .i64 y.1.2.1.1, .int .i64 y.1.2.1.2, .slice s1a4 s1n4 s1c4, .slice s1a5 s1n5 s1c5, .slice s1a6 s1n6 s1c6, .slice s1a7 s1n7 s1c7, .slice s1a8 s1n8 s1c8, .slice s1a9 s1n9 s1c9] 75)) := More.refl _
    have HB : ∀ w', More ((W.alloc (.cells #[.int .i64 x.1.1.1, .int .i64 x.1.1.2, .int .i64 x.1.2.1.1, .int .i64 x.1.2.1.2, .slice s0a4 s0n4 s0c4, .slice s0a5 s0n5 s0c5, .slice s0a6 s0n6 s0c6, .slice s0a7 s0n7 s0c7, .slice s0a8 s0n8 s0c8, .slice s0a9 s0n9 s0c9] 75)).alloc (.cells #[.int .i64 y.1.1.1, .int .i64 y.1.1.2, .int .i64 y.1.2.1.1, .int .i64 y.1.2.1.2, .slice s1a4 s1n4 s1c4, .slice s1a5 s1n5 s1c5, .slice s1a6 s1n6 s1c6, .slice s1a7 s1n7 s1c7, .slice s1a8 s1n8 s1c8, .slice s1a9 s1n9 s1c9] 75)) w' → w'.cell? ⟨W.heap.size, 0, none⟩ = some (.int .i64 x.1.1.1) ∧ w'.cell? ⟨W.heap.size, 1, none⟩ = some (.int .i64 x.1.1.2) ∧ w'.cell? ⟨W.heap.size, 2, none⟩ = some (.int .i64 x.1.2.1.1) ∧ w'.cell? ⟨W.heap.size, 3, none⟩ = some (.int .i64 x.1.2.1.2) ∧ w'.cell? ⟨W.heap.size, 4, none⟩ = some (.slice s0a4 s0n4 s0c4) ∧ w'.cell? ⟨W.heap.size, 5, none⟩ = some (.slice s0a5 s0n5 s0c5) ∧ w'.cell? ⟨W.heap.size, 6, none⟩ = some (.slice s0a6 s0n6 s0c6) ∧ w'.cell? ⟨W.heap.size, 7, none⟩ = some (.slice s0a7 s0n7 s0c7) ∧ w'.cell? ⟨W.heap.size, 8, none⟩ = some (.slice s0a8 s0n8 s0c8) ∧ w'.cell? ⟨W.heap.size, 9, none⟩ = some (.slice s0a9 s0n9 s0c9) ∧ (∀ j, w'.frozen? ⟨W.heap.size, j, none⟩ = false) ∧ w'.cell? ⟨W.heap.size + 1, 0, none⟩ = some (.int .i64 y.1.1.1) ∧ w'.cell? ⟨W.heap.size + 1, 1, none⟩ = some (.int .i64 y.1.1.2) ∧ w'.cell? ⟨W.heap.size + 1, 2, none⟩ = some (.int .i64 y.1.2.1.1) ∧ w'.cell? ⟨W.heap.size + 1, 3, none⟩ = some (.int .i64 y.1.2.1.2) ∧ w'.cell? ⟨W.heap.size + 1, 4, none⟩ = some (.slice s1a4 s1n4 s1c4) ∧ w'.cell? ⟨W.heap.size + 1, 5, none⟩ = some (.slice s1a5 s1n5 s1c5) ∧ w'.cell? ⟨W.heap.size + 1, 6, none⟩ = some (.slice s1a6 s1n6 s1c6) ∧ w'.cell? ⟨W.heap.size + 1, 7, none⟩ = some (.slice s1a7 s1n7 s1c7) ∧ w'.cell? ⟨W.heap.size + 1, 8, none⟩ = some (.slice s1a8 s1n8 s1c8) ∧ w'.cell? ⟨W.heap.size + 1, 9, none⟩ = some (.slice s1a9 s1n9 s1c9) ∧ (∀ j, w'.frozen? ⟨W.heap.size + 1, j, none⟩ = false) := fun w' h => ⟨box_new (by simp) (More.un h) 0, box_new (by simp) (More.un h) 1, box_new (by simp) (More.un h) 2, box_new (by simp) (More.un h) 3, box_new (by simp) (More.un h) 4, box_new (by simp) (More.un h) 5, box_new (by simp) (More.un h) 6, box_new (by simp) (More.un h) 7, box_new (by simp) (More.un h) 8, box_new (by simp) (More.un h) 9, fun j => box_free (by simp) (More.un h) j, box_new (by simp) h 0, box_new (by simp) h 1, box_new (by simp) h 2, box_new (by simp) h 3, box_new (by simp) h 4, box_new (by simp) h 5, box_new (by simp) h 6, box_new (by simp) h 7, box_new (by simp) h 8, box_new (by simp) h 9, fun j => box_free (by simp) h j⟩
    go_enter Try.func6, Try.ntmps6
    go_wp2_with fail
    refine (laws_szRoad _ x _ _ (Ty.at_more HV0.out mC) (by decide) (by decide)).mono ?_
    rintro e w1 ⟨rfl, b1⟩
    have HXa1 : Hid (More (((W.alloc (.cells #[.int .i64 x.1.1.1, .int .i64 x.1.1.2, .int .i64 x.1.2.1.1, .int .i64 x.1.2.1.2, .slice s0a4 s0n4 s0c4, .slice s0a5 s0n5 s0c5, .slice s0a6 s0n6 s0c6, .slice s0a7 s0n7 s0c7, .slice s0a8 s0n8 s0c8, .slice s0a9 s0n9 s0c9] 75)).alloc (.cells #[.int .i64 y.1.1.1, .int .i64 y.1.1.2, .int .i64 y.1.2.1.1, .int .i64 y.1.2.1.2, .slice s1a4 s1n4 s1c4, .slice s1a5 s1n5 s1c5, .slice s1a6 s1n6 s1c6, .slice s1a7 s1n7 s1c7, .slice s1a8 s1n8 s1c8, .slice s1a9 s1n9 s1c9] 75))) w1) := Lib.hid mC
    have HBw1 := HB _ HXa1.out
    have hsHB1_0 : W.heap.size < w1.heap.size := by have := (HXa1.out).size; simp at this; omega
    have hsHB1_1 : W.heap.size + 1 < w1.heap.size := by have := (HXa1.out).size; simp at this; omega
    rw [szI_neg (by have := Hbad.out; omega)]
    go_wp2_with fail
    go_ret
    exact ⟨rfl, mC⟩
  by_cases hn1 : ((wRoad y : Nat) : Int) ≤ 1048576 - (wRoad x : Nat)
  rotate_left
  · have Hbad := Lib.hid hn1; clear hn1
    have Hn0 := Lib.hid hn0; clear hn0
    have HX : More ((W.alloc (.cells #[.int .i64 x.1.1.1, .int .i64 x.1.1.2, .int .i64 x.1.2.1.1, .int .i64 x.1.2.1.2, .slice s0a4 s0n4 s0c4, .slice s0a5 s0n5 s0c5, .slice s0a6 s0n6 s0c6, .slice s0a7 s0n7 s0c7, .slice s0a8 s0n8 s0c8, .slice s0a9 s0n9 s0c9] 75)).alloc (.cells #[.int .i64 y.1.1.1, .int .i64 y.1.1.2, .int .i64 y.1.2.1.1, .int .i64 y.1.2.1.2, .slice s1a4 s1n4 s1c4, .slice s1a5 s1n5 s1c5, .slice s1a6 s1n6 s1c6, .slice s1a7 s1n7 s1c7, .slice s1a8 s1n8 s1c8, .slice s1a9 s1n9 s1c9] 75)) ((W.alloc (.cells #[.int .i64 x.1.1.1, .int .i64 x.1.1.2, .int .i64 x.1.2.1.1, .int .i64 x.1.2.1.2, .slice s0a4 s0n4 s0c4, .slice s0a5 s0n5 s0c5, .slice s0a6 s0n6 s0c6, .slice s0a7 s0n7 s0c7, .slice s0a8 s0n8 s0c8, .slice s0a9 s0n9 s0c9] 75)).alloc (.cells #[.int .i64 y.1.1.1, .int .i64 y.1.1.2, .int .i64 y.1.2.1.1, .int .i64 y.1.2.1.2, .slice s1a4 s1n4 s1c4, .slice s1a5 s1n5 s1c5, .slice s1a6 s1n6 s1c6, .slice s1a7 s1n7 s1c7, .slice s1a8 s1n8 s1c8, .slice s1a9 s1n9 s1c9] 75)) := More.refl _
    have HB : ∀ w', More ((W.alloc (.cells #[.int .i64 x.1.1.1, .int .i64 x.1.1.2, .int .i64 x.1.2.1.1, .int .i64 x.1.2.1.2, .slice s0a4 s0n4 s0c4, .slice s0a5 s0n5 s0c5, .slice s0a6 s0n6 s0c6, .slice s0a7 s0n7 s0c7, .slice s0a8 s0n8 s0c8, .slice s0a9 s0n9 s0c9] 75)).alloc (.cells #[.int .i64 y.1.1.1, .int .i64 y.1.1.2, .int .i64 y.1.2.1.1, .int .i64 y.1.2.1.2, .slice s1a4 s1n4 s1c4, .slice s1a5 s1n5 s1c5, .slice s1a6 s1n6 s1c6, .slice s1a7 s1n7 s1c7, .slice s1a8 s1n8 s1c8, .slice s1a9 s1n9 s1c9] 75)) w' → w'.cell? ⟨W.heap.size, 0, none⟩ = some (.int .i64 x.1.1.1) ∧ w'.cell? ⟨W.heap.size, 1, none⟩ = some (.int .i64 x.1.1.2) ∧ w'.cell? ⟨W.heap.size, 2, none⟩ = some (.int .i64 x.1.2.1.1) ∧ w'.cell? ⟨W.heap.size, 3, none⟩ = some (.int .i64 x.1.2.1.2) ∧ w'.cell? ⟨W.heap.size, 4, none⟩ = some (.slice s0a4 s0n4 s0c4) ∧ w'.cell? ⟨W.heap.size, 5, none⟩ = some (.slice s0a5 s0n5 s0c5) ∧ w'.cell? ⟨W.heap.size, 6, none⟩ = some (.slice s0a6 s0n6 s0c6) ∧ w'.cell? ⟨W.heap.size, 7, none⟩ = some (.slice s0a7 s0n7 s0c7) ∧ w'.cell? ⟨W.heap.size, 8, none⟩ = some (.slice s0a8 s0n8 s0c8) ∧ w'.cell? ⟨W.heap.size, 9, none⟩ = some (.slice s0a9 s0n9 s0c9) ∧ (∀ j, w'.frozen? ⟨W.heap.size, j, none⟩ = false) ∧ w'.cell? ⟨W.heap.size + 1, 0, none⟩ = some (.int .i64 y.1.1.1) ∧ w'.cell? ⟨W.heap.size + 1, 1, none⟩ = some (.int .i64 y.1.1.2) ∧ w'.cell? ⟨W.heap.size + 1, 2, none⟩ = some (.int .i64 y.1.2.1.1) ∧ w'.cell? ⟨W.heap.size + 1, 3, none⟩ = some (.int .i64 y.1.2.1.2) ∧ w'.cell? ⟨W.heap.size + 1, 4, none⟩ = some (.slice s1a4 s1n4 s1c4) ∧ w'.cell? ⟨W.heap.size + 1, 5, none⟩ = some (.slice s1a5 s1n5 s1c5) ∧ w'.cell? ⟨W.heap.size + 1, 6, none⟩ = some (.slice s1a6 s1n6 s1c6) ∧ w'.cell? ⟨W.heap.size + 1, 7, none⟩ = some (.slice s1a7 s1n7 s1c7) ∧ w'.cell? ⟨W.heap.size + 1, 8, none⟩ = some (.slice s1a8 s1n8 s1c8) ∧ w'.cell? ⟨W.heap.size + 1, 9, none⟩ = some (.slice s1a9 s1n9 s1c9) ∧ (∀ j, w'.frozen? ⟨W.heap.size + 1, j, none⟩ = false) := fun w' h => ⟨box_new (by simp) (More.un h) 0, box_new (by simp) (More.un h) 1, box_new (by simp) (More.un h) 2, box_new (by simp) (More.un h) 3, box_new (by simp) (More.un h) 4, box_new (by simp) (More.un h) 5, box_new (by simp) (More.un h) 6, box_new (by simp) (More.un h) 7, box_new (by simp) (More.un h) 8, box_new (by simp) (More.un h) 9, fun j => box_free (by simp) (More.un h) j, box_new (by simp) h 0, box_new (by simp) h 1, box_new (by simp) h 2, box_new (by simp) h 3, box_new (by simp) h 4, box_new (by simp) h 5, box_new (by simp) h 6, box_new (by simp) h 7, box_new (by simp) h 8, box_new (by simp) h 9, fun j => box_free (by simp) h j⟩
    go_enter Try.func6, Try.ntmps6
    go_wp2_with fail
    refine (laws_szRoad _ x _ _ (Ty.at_more HV0.out mC) (by decide) (by decide)).mono ?_
    rintro e w1 ⟨rfl, b1⟩
    have HXa1 : Hid (More (((W.alloc (.cells #[.int .i64 x.1.1.1, .int .i64 x.1.1.2, .int .i64 x.1.2.1.1, .int .i64 x.1.2.1.2, .slice s0a4 s0n4 s0c4, .slice s0a5 s0n5 s0c5, .slice s0a6 s0n6 s0c6, .slice s0a7 s0n7 s0c7, .slice s0a8 s0n8 s0c8, .slice s0a9 s0n9 s0c9] 75)).alloc (.cells #[.int .i64 y.1.1.1, .int .i64 y.1.1.2, .int .i64 y.1.2.1.1, .int .i64 y.1.2.1.2, .slice s1a4 s1n4 s1c4, .slice s1a5 s1n5 s1c5, .slice s1a6 s1n6 s1c6, .slice s1a7 s1n7 s1c7, .slice s1a8 s1n8 s1c8, .slice s1a9 s1n9 s1c9] 75))) w1) := Lib.hid mC
    have HBw1 := HB _ HXa1.out
    have hsHB1_0 : W.heap.size < w1.heap.size := by have := (HXa1.out).size; simp at this; omega
    have hsHB1_1 : W.heap.size + 1 < w1.heap.size := by have := (HXa1.out).size; simp at this; omega
    rw [szI_pos (by have := Hn0.out; omega)]
    have z0 : 0 ≤ (1048576 : Int) - (wRoad x : Nat) := by have := Hn0.out; omega
    go_wp2_with fail
    refine (laws_szRoad _ y _ _ (Ty.at_more HV1.out mC) (by have := Hn0.out; omega) (by omega)).mono ?_
    rintro e w2 ⟨rfl, b2⟩
    have HXa2 : Hid (More (((W.alloc (.cells #[.int .i64 x.1.1.1, .int .i64 x.1.1.2, .int .i64 x.1.2.1.1, .int .i64 x.1.2.1.2, .slice s0a4 s0n4 s0c4, .slice s0a5 s0n5 s0c5, .slice s0a6 s0n6 s0c6, .slice s0a7 s0n7 s0c7, .slice s0a8 s0n8 s0c8, .slice s0a9 s0n9 s0c9] 75)).alloc (.cells #[.int .i64 y.1.1.1, .int .i64 y.1.1.2, .int .i64 y.1.2.1.1, .int .i64 y.1.2.1.2, .slice s1a4 s1n4 s1c4, .slice s1a5 s1n5 s1c5, .slice s1a6 s1n6 s1c6, .slice s1a7 s1n7 s1c7, .slice s1a8 s1n8 s1c8, .slice s1a9 s1n9 s1c9] 75))) w2) := Lib.hid mC
    have HBw2 := HB _ HXa2.out
    have hsHB2_0 : W.heap.size < w2.heap.size := by have := (HXa2.out).size; simp at this; omega
    have hsHB2_1 : W.heap.size + 1 < w2.heap.size := by have := (HXa2.out).size; simp at this; omega
    try clear HBw1
    rw [szI_neg (by have := Hbad.out; omega)]
    go_wp2_with fail
    go_ret
    exact ⟨rfl, mC⟩
  have Hn0 := Lib.hid hn0
  have Hn1 := Lib.hid hn1
  have Hs0 : Hid (wRoad x ≤ 1048576) := Lib.hid (by omega)
  have Hs1 : Hid (wRoad y ≤ 1048576) := Lib.hid (by omega)
  clear hn0 hn1
  have HX : More ((W.alloc (.cells #[.int .i64 x.1.1.1, .int .i64 x.1.1.2, .int .i64 x.1.2.1.1, .int .i64 x.1.2.1.2, .slice s0a4 s0n4 s0c4, .slice s0a5 s0n5 s0c5, .slice s0a6 s0n6 s0c6, .slice s0a7 s0n7 s0c7, .slice s0a8 s0n8 s0c8, .slice s0a9 s0n9 s0c9] 75)).alloc (.cells #[.int .i64 y.1.1.1, .int .i64 y.1.1.2, .int .i64 y.1.2.1.1, .int .i64 y.1.2.1.2, .slice s1a4 s1n4 s1c4, .slice s1a5 s1n5 s1c5, .slice s1a6 s1n6 s1c6, .slice s1a7 s1n7 s1c7, .slice s1a8 s1n8 s1c8, .slice s1a9 s1n9 s1c9] 75)) ((W.alloc (.cells #[.int .i64 x.1.1.1, .int .i64 x.1.1.2, .int .i64 x.1.2.1.1, .int .i64 x.1.2.1.2, .slice s0a4 s0n4 s0c4, .slice s0a5 s0n5 s0c5, .slice s0a6 s0n6 s0c6, .slice s0a7 s0n7 s0c7, .slice s0a8 s0n8 s0c8, .slice s0a9 s0n9 s0c9] 75)).alloc (.cells #[.int .i64 y.1.1.1, .int .i64 y.1.1.2, .int .i64 y.1.2.1.1, .int .i64 y.1.2.1.2, .slice s1a4 s1n4 s1c4, .slice s1a5 s1n5 s1c5, .slice s1a6 s1n6 s1c6, .slice s1a7 s1n7 s1c7, .slice s1a8 s1n8 s1c8, .slice s1a9 s1n9 s1c9] 75)) := More.refl _
  have HB : ∀ w', More ((W.alloc (.cells #[.int .i64 x.1.1.1, .int .i64 x.1.1.2, .int .i64 x.1.2.1.1, .int .i64 x.1.2.1.2, .slice s0a4 s0n4 s0c4, .slice s0a5 s0n5 s0c5, .slice s0a6 s0n6 s0c6, .slice s0a7 s0n7 s0c7, .slice s0a8 s0n8 s0c8, .slice s0a9 s0n9 s0c9] 75)).alloc (.cells #[.int .i64 y.1.1.1, .int .i64 y.1.1.2, .int .i64 y.1.2.1.1, .int .i64 y.1.2.1.2, .slice s1a4 s1n4 s1c4, .slice s1a5 s1n5 s1c5, .slice s1a6 s1n6 s1c6, .slice s1a7 s1n7 s1c7, .slice s1a8 s1n8 s1c8, .slice s1a9 s1n9 s1c9] 75)) w' → w'.cell? ⟨W.heap.size, 0, none⟩ = some (.int .i64 x.1.1.1) ∧ w'.cell? ⟨W.heap.size, 1, none⟩ = some (.int .i64 x.1.1.2) ∧ w'.cell? ⟨W.heap.size, 2, none⟩ = some (.int .i64 x.1.2.1.1) ∧ w'.cell? ⟨W.heap.size, 3, none⟩ = some (.int .i64 x.1.2.1.2) ∧ w'.cell? ⟨W.heap.size, 4, none⟩ = some (.slice s0a4 s0n4 s0c4) ∧ w'.cell? ⟨W.heap.size, 5, none⟩ = some (.slice s0a5 s0n5 s0c5) ∧ w'.cell? ⟨W.heap.size, 6, none⟩ = some (.slice s0a6 s0n6 s0c6) ∧ w'.cell? ⟨W.heap.size, 7, none⟩ = some (.slice s0a7 s0n7 s0c7) ∧ w'.cell? ⟨W.heap.size, 8, none⟩ = some (.slice s0a8 s0n8 s0c8) ∧ w'.cell? ⟨W.heap.size, 9, none⟩ = some (.slice s0a9 s0n9 s0c9) ∧ (∀ j, w'.frozen? ⟨W.heap.size, j, none⟩ = false) ∧ w'.cell? ⟨W.heap.size + 1, 0, none⟩ = some (.int .i64 y.1.1.1) ∧ w'.cell? ⟨W.heap.size + 1, 1, none⟩ = some (.int .i64 y.1.1.2) ∧ w'.cell? ⟨W.heap.size + 1, 2, none⟩ = some (.int .i64 y.1.2.1.1) ∧ w'.cell? ⟨W.heap.size + 1, 3, none⟩ = some (.int .i64 y.1.2.1.2) ∧ w'.cell? ⟨W.heap.size + 1, 4, none⟩ = some (.slice s1a4 s1n4 s1c4) ∧ w'.cell? ⟨W.heap.size + 1, 5, none⟩ = some (.slice s1a5 s1n5 s1c5) ∧ w'.cell? ⟨W.heap.size + 1, 6, none⟩ = some (.slice s1a6 s1n6 s1c6) ∧ w'.cell? ⟨W.heap.size + 1, 7, none⟩ = some (.slice s1a7 s1n7 s1c7) ∧ w'.cell? ⟨W.heap.size + 1, 8, none⟩ = some (.slice s1a8 s1n8 s1c8) ∧ w'.cell? ⟨W.heap.size + 1, 9, none⟩ = some (.slice s1a9 s1n9 s1c9) ∧ (∀ j, w'.frozen? ⟨W.heap.size + 1, j, none⟩ = false) := fun w' h => ⟨box_new (by simp) (More.un h) 0, box_new (by simp) (More.un h) 1, box_new (by simp) (More.un h) 2, box_new (by simp) (More.un h) 3, box_new (by simp) (More.un h) 4, box_new (by simp) (More.un h) 5, box_new (by simp) (More.un h) 6, box_new (by simp) (More.un h) 7, box_new (by simp) (More.un h) 8, box_new (by simp) (More.un h) 9, fun j => box_free (by simp) (More.un h) j, box_new (by simp) h 0, box_new (by simp) h 1, box_new (by simp) h 2, box_new (by simp) h 3, box_new (by simp) h 4, box_new (by simp) h 5, box_new (by simp) h 6, box_new (by simp) h 7, box_new (by simp) h 8, box_new (by simp) h 9, fun j => box_free (by simp) h j⟩
  go_enter Try.func6, Try.ntmps6
  go_wp2_with fail
  refine (laws_szRoad _ x _ _ (Ty.at_more HV0.out mC) (by decide) (by decide)).mono ?_
  rintro e w1 ⟨rfl, b1⟩
  have HXa1 : Hid (More (((W.alloc (.cells #[.int .i64 x.1.1.1, .int .i64 x.1.1.2, .int .i64 x.1.2.1.1, .int .i64 x.1.2.1.2, .slice s0a4 s0n4 s0c4, .slice s0a5 s0n5 s0c5, .slice s0a6 s0n6 s0c6, .slice s0a7 s0n7 s0c7, .slice s0a8 s0n8 s0c8, .slice s0a9 s0n9 s0c9] 75)).alloc (.cells #[.int .i64 y.1.1.1, .int .i64 y.1.1.2, .int .i64 y.1.2.1.1, .int .i64 y.1.2.1.2, .slice s1a4 s1n4 s1c4, .slice s1a5 s1n5 s1c5, .slice s1a6 s1n6 s1c6, .slice s1a7 s1n7 s1c7, .slice s1a8 s1n8 s1c8, .slice s1a9 s1n9 s1c9] 75))) w1) := Lib.hid mC
  have HBw1 := HB _ HXa1.out
  have hsHB1_0 : W.heap.size < w1.heap.size := by have := (HXa1.out).size; simp at this; omega
  have hsHB1_1 : W.heap.size + 1 < w1.heap.size := by have := (HXa1.out).size; simp at this; omega
  rw [szI_pos (by have := Hn0.out; omega)]
  have z0 : 0 ≤ (1048576 : Int) - (wRoad x : Nat) := by have := Hn0.out; omega
  go_wp2_with fail
  refine (laws_szRoad _ y _ _ (Ty.at_more HV1.out mC) (by have := Hn0.out; omega) (by omega)).mono ?_
  rintro e w2 ⟨rfl, b2⟩
  have HXa2 : Hid (More (((W.alloc (.cells #[.int .i64 x.1.1.1, .int .i64 x.1.1.2, .int .i64 x.1.2.1.1, .int .i64 x.1.2.1.2, .slice s0a4 s0n4 s0c4, .slice s0a5 s0n5 s0c5, .slice s0a6 s0n6 s0c6, .slice s0a7 s0n7 s0c7, .slice s0a8 s0n8 s0c8, .slice s0a9 s0n9 s0c9] 75)).alloc (.cells #[.int .i64 y.1.1.1, .int .i64 y.1.1.2, .int .i64 y.1.2.1.1, .int .i64 y.1.2.1.2, .slice s1a4 s1n4 s1c4, .slice s1a5 s1n5 s1c5, .slice s1a6 s1n6 s1c6, .slice s1a7 s1n7 s1c7, .slice s1a8 s1n8 s1c8, .slice s1a9 s1n9 s1c9] 75))) w2) := Lib.hid mC
  have HBw2 := HB _ HXa2.out
  have hsHB2_0 : W.heap.size < w2.heap.size := by have := (HXa2.out).size; simp at this; omega
  have hsHB2_1 : W.heap.size + 1 < w2.heap.size := by have := (HXa2.out).size; simp at this; omega
  try clear HBw1
  rw [szI_pos (by have := Hn1.out; omega)]
  have z1 : 0 ≤ (1048576 : Int) - (wRoad x : Nat) - (wRoad y : Nat) := by have := Hn1.out; omega
  go_wp2_with fail
  have RHB := fun (w' : World) (h : More w2 w') => HB w' (More.trans HXa2.out h)
  clear HBw2
  go_region_held3 (fun w' => More w2 w') (first | exact More.refl _ | exact mC) (first | (go_at_call 36; (with_reducible refine (laws_toRoad _ x _ (Ty.at_more HV0.out mC) Hs0.out).mono ?_); rintro e w3 ⟨c0, rfl, b3, Fc0⟩; obtain ⟨c0za4, c0zn4, c0zc4, c0za5, c0zn5, c0zc5, c0za6, c0zn6, c0zc6, c0za7, c0zn7, c0zc7, c0za8, c0zn8, c0zc8, c0za9, c0zn9, c0zc9, rfl⟩ := sh_Road (Ty.fresh_at Fc0)) | (go_at_call 36; (with_reducible refine (laws_toRoad _ y _ (Ty.at_more HV1.out mC) Hs1.out).mono ?_); rintro e w4 ⟨c1, rfl, b4, Fc1⟩; obtain ⟨c1za4, c1zn4, c1zc4, c1za5, c1zn5, c1zc5, c1za6, c1zn6, c1zc6, c1za7, c1zn7, c1zc7, c1za8, c1zn8, c1zc8, c1za9, c1zn9, c1zc9, rfl⟩ := sh_Road (Ty.fresh_at Fc1)) | (go_at_call 35; (with_reducible refine (spec_SameRoad _ _ x y _ (Ty.at_more (Ty.fresh_at Fc0) (Turns.more (by ((repeat (first | (with_reducible apply Turns.drew) | (with_reducible apply Turns.drewN) | (with_reducible apply Turns.alloc))); (with_reducible refine Turns.via b4 ?_); (repeat (first | (with_reducible apply Turns.drew) | (with_reducible apply Turns.drewN) | (with_reducible apply Turns.alloc))); exact Turns.refl _ _)))) (Ty.at_more (Ty.fresh_at Fc1) (Turns.more (by ((repeat (first | (with_reducible apply Turns.drew) | (with_reducible apply Turns.drewN) | (with_reducible apply Turns.alloc))); exact Turns.refl _ _)))) Hs0.out Hs1.out).mono ?_); rintro e w5 ⟨rfl, b5⟩))
  clear RHB
  have HXa5 : Hid (More (((W.alloc (.cells #[.int .i64 x.1.1.1, .int .i64 x.1.1.2, .int .i64 x.1.2.1.1, .int .i64 x.1.2.1.2, .slice s0a4 s0n4 s0c4, .slice s0a5 s0n5 s0c5, .slice s0a6 s0n6 s0c6, .slice s0a7 s0n7 s0c7, .slice s0a8 s0n8 s0c8, .slice s0a9 s0n9 s0c9] 75)).alloc (.cells #[.int .i64 y.1.1.1, .int .i64 y.1.1.2, .int .i64 y.1.2.1.1, .int .i64 y.1.2.1.2, .slice s1a4 s1n4 s1c4, .slice s1a5 s1n5 s1c5, .slice s1a6 s1n6 s1c6, .slice s1a7 s1n7 s1c7, .slice s1a8 s1n8 s1c8, .slice s1a9 s1n9 s1c9] 75))) w5) := Lib.hid mC
  have HBw5 := HB _ HXa5.out
  have hsHB5_0 : W.heap.size < w5.heap.size := by have := (HXa5.out).size; simp at this; omega
  have hsHB5_1 : W.heap.size + 1 < w5.heap.size := by have := (HXa5.out).size; simp at this; omega
  try clear HBw4
  go_wp2_with fail
  refine (laws_toRoad _ x _ (Ty.at_more HV0.out mC) Hs0.out).mono ?_
  rintro e w6 ⟨x0, rfl, b6, Fx0⟩
  have HXa6 : Hid (More (((W.alloc (.cells #[.int .i64 x.1.1.1, .int .i64 x.1.1.2, .int .i64 x.1.2.1.1, .int .i64 x.1.2.1.2, .slice s0a4 s0n4 s0c4, .slice s0a5 s0n5 s0c5, .slice s0a6 s0n6 s0c6, .slice s0a7 s0n7 s0c7, .slice s0a8 s0n8 s0c8, .slice s0a9 s0n9 s0c9] 75)).alloc (.cells #[.int .i64 y.1.1.1, .int .i64 y.1.1.2, .int .i64 y.1.2.1.1, .int .i64 y.1.2.1.2, .slice s1a4 s1n4 s1c4, .slice s1a5 s1n5 s1c5, .slice s1a6 s1n6 s1c6, .slice s1a7 s1n7 s1c7, .slice s1a8 s1n8 s1c8, .slice s1a9 s1n9 s1c9] 75))) w6) := Lib.hid mC
  have HBw6 := HB _ HXa6.out
  have hsHB6_0 : W.heap.size < w6.heap.size := by have := (HXa6.out).size; simp at this; omega
  have hsHB6_1 : W.heap.size + 1 < w6.heap.size := by have := (HXa6.out).size; simp at this; omega
  try clear HBw5
  obtain ⟨x0za4, x0zn4, x0zc4, x0za5, x0zn5, x0zc5, x0za6, x0zn6, x0zc6, x0za7, x0zn7, x0zc7, x0za8, x0zn8, x0zc8, x0za9, x0zn9, x0zc9, rfl⟩ := sh_Road (Ty.fresh_at Fx0)
  have HBx0 : ∀ w', More (w6.alloc (.cells #[.int .i64 x.1.1.1, .int .i64 x.1.1.2, .int .i64 x.1.2.1.1, .int .i64 x.1.2.1.2, .slice x0za4 x0zn4 x0zc4, .slice x0za5 x0zn5 x0zc5, .slice x0za6 x0zn6 x0zc6, .slice x0za7 x0zn7 x0zc7, .slice x0za8 x0zn8 x0zc8, .slice x0za9 x0zn9 x0zc9] 80)) w' → w'.cell? ⟨w6.heap.size, 0, none⟩ = some (.int .i64 x.1.1.1) ∧ w'.cell? ⟨w6.heap.size, 1, none⟩ = some (.int .i64 x.1.1.2) ∧ w'.cell? ⟨w6.heap.size, 2, none⟩ = some (.int .i64 x.1.2.1.1) ∧ w'.cell? ⟨w6.heap.size, 3, none⟩ = some (.int .i64 x.1.2.1.2) ∧ w'.cell? ⟨w6.heap.size, 4, none⟩ = some (.slice x0za4 x0zn4 x0zc4) ∧ w'.cell? ⟨w6.heap.size, 5, none⟩ = some (.slice x0za5 x0zn5 x0zc5) ∧ w'.cell? ⟨w6.heap.size, 6, none⟩ = some (.slice x0za6 x0zn6 x0zc6) ∧ w'.cell? ⟨w6.heap.size, 7, none⟩ = some (.slice x0za7 x0zn7 x0zc7) ∧ w'.cell? ⟨w6.heap.size, 8, none⟩ = some (.slice x0za8 x0zn8 x0zc8) ∧ w'.cell? ⟨w6.heap.size, 9, none⟩ = some (.slice x0za9 x0zn9 x0zc9) := fun w' h => ⟨box_new rfl h 0, box_new rfl h 1, box_new rfl h 2, box_new rfl h 3, box_new rfl h 4, box_new rfl h 5, box_new rfl h 6, box_new rfl h 7, box_new rfl h 8, box_new rfl h 9⟩
  go_wp2_with fail
  refine (laws_toRoad _ y _ (Ty.at_more HV1.out mC) Hs1.out).mono ?_
  rintro e w7 ⟨x1, rfl, b7, Fx1⟩
  have HXa7 : Hid (More (((W.alloc (.cells #[.int .i64 x.1.1.1, .int .i64 x.1.1.2, .int .i64 x.1.2.1.1, .int .i64 x.1.2.1.2, .slice s0a4 s0n4 s0c4, .slice s0a5 s0n5 s0c5, .slice s0a6 s0n6 s0c6, .slice s0a7 s0n7 s0c7, .slice s0a8 s0n8 s0c8, .slice s0a9 s0n9 s0c9] 75)).alloc (.cells #[.int .i64 y.1.1.1, .int .i64 y.1.1.2, .int .i64 y.1.2.1.1, .int .i64 y.1.2.1.2, .slice s1a4 s1n4 s1c4, .slice s1a5 s1n5 s1c5, .slice s1a6 s1n6 s1c6, .slice s1a7 s1n7 s1c7, .slice s1a8 s1n8 s1c8, .slice s1a9 s1n9 s1c9] 75))) w7) := Lib.hid mC
  have HBw7 := HB _ HXa7.out
  have hsHB7_0 : W.heap.size < w7.heap.size := by have := (HXa7.out).size; simp at this; omega
  have hsHB7_1 : W.heap.size + 1 < w7.heap.size := by have := (HXa7.out).size; simp at this; omega
  try clear HBw6
  have HXx0_7 : Hid (More (w6.alloc (.cells #[.int .i64 x.1.1.1, .int .i64 x.1.1.2, .int .i64 x.1.2.1.1, .int .i64 x.1.2.1.2, .slice x0za4 x0zn4 x0zc4, .slice x0za5 x0zn5 x0zc5, .slice x0za6 x0zn6 x0zc6, .slice x0za7 x0zn7 x0zc7, .slice x0za8 x0zn8 x0zc8, .slice x0za9 x0zn9 x0zc9] 80)) w7) := Lib.hid mC
  have HBx0w7 := HBx0 _ HXx0_7.out
  have hsHBx07_0 : w6.heap.size < w7.heap.size := by have := (HXx0_7.out).size; simp at this; omega
  try clear HBx0w6
  obtain ⟨x1za4, x1zn4, x1zc4, x1za5, x1zn5, x1zc5, x1za6, x1zn6, x1zc6, x1za7, x1zn7, x1zc7, x1za8, x1zn8, x1zc8, x1za9, x1zn9, x1zc9, rfl⟩ := sh_Road (Ty.fresh_at Fx1)
  have HBx1 : ∀ w', More (w7.alloc (.cells #[.int .i64 y.1.1.1, .int .i64 y.1.1.2, .int .i64 y.1.2.1.1, .int .i64 y.1.2.1.2, .slice x1za4 x1zn4 x1zc4, .slice x1za5 x1zn5 x1zc5, .slice x1za6 x1zn6 x1zc6, .slice x1za7 x1zn7 x1zc7, .slice x1za8 x1zn8 x1zc8, .slice x1za9 x1zn9 x1zc9] 80)) w' → w'.cell? ⟨w7.heap.size, 0, none⟩ = some (.int .i64 y.1.1.1) ∧ w'.cell? ⟨w7.heap.size, 1, none⟩ = some (.int .i64 y.1.1.2) ∧ w'.cell? ⟨w7.heap.size, 2, none⟩ = some (.int .i64 y.1.2.1.1) ∧ w'.cell? ⟨w7.heap.size, 3, none⟩ = some (.int .i64 y.1.2.1.2) ∧ w'.cell? ⟨w7.heap.size, 4, none⟩ = some (.slice x1za4 x1zn4 x1zc4) ∧ w'.cell? ⟨w7.heap.size, 5, none⟩ = some (.slice x1za5 x1zn5 x1zc5) ∧ w'.cell? ⟨w7.heap.size, 6, none⟩ = some (.slice x1za6 x1zn6 x1zc6) ∧ w'.cell? ⟨w7.heap.size, 7, none⟩ = some (.slice x1za7 x1zn7 x1zc7) ∧ w'.cell? ⟨w7.heap.size, 8, none⟩ = some (.slice x1za8 x1zn8 x1zc8) ∧ w'.cell? ⟨w7.heap.size, 9, none⟩ = some (.slice x1za9 x1zn9 x1zc9) := fun w' h => ⟨box_new rfl h 0, box_new rfl h 1, box_new rfl h 2, box_new rfl h 3, box_new rfl h 4, box_new rfl h 5, box_new rfl h 6, box_new rfl h 7, box_new rfl h 8, box_new rfl h 9⟩
  go_wp2_with fail
  refine (impl_SameRoad _ _ x y _ (Ty.at_more (Ty.fresh_at Fx0) mC) (Ty.at_more (Ty.fresh_at Fx1) mC) Hs0.out Hs1.out).mono ?_
  rintro e w8 ⟨rfl, b8⟩
  have HXa8 : Hid (More (((W.alloc (.cells #[.int .i64 x.1.1.1, .int .i64 x.1.1.2, .int .i64 x.1.2.1.1, .int .i64 x.1.2.1.2, .slice s0a4 s0n4 s0c4, .slice s0a5 s0n5 s0c5, .slice s0a6 s0n6 s0c6, .slice s0a7 s0n7 s0c7, .slice s0a8 s0n8 s0c8, .slice s0a9 s0n9 s0c9] 75)).alloc (.cells #[.int .i64 y.1.1.1, .int .i64 y.1.1.2, .int .i64 y.1.2.1.1, .int .i64 y.1.2.1.2, .slice s1a4 s1n4 s1c4, .slice s1a5 s1n5 s1c5, .slice s1a6 s1n6 s1c6, .slice s1a7 s1n7 s1c7, .slice s1a8 s1n8 s1c8, .slice s1a9 s1n9 s1c9] 75))) w8) := Lib.hid mC
  have HBw8 := HB _ HXa8.out
  have hsHB8_0 : W.heap.size < w8.heap.size := by have := (HXa8.out).size; simp at this; omega
  have hsHB8_1 : W.heap.size + 1 < w8.heap.size := by have := (HXa8.out).size; simp at this; omega
  try clear HBw7
  have HXx0_8 : Hid (More (w6.alloc (.cells #[.int .i64 x.1.1.1, .int .i64 x.1.1.2, .int .i64 x.1.2.1.1, .int .i64 x.1.2.1.2, .slice x0za4 x0zn4 x0zc4, .slice x0za5 x0zn5 x0zc5, .slice x0za6 x0zn6 x0zc6, .slice x0za7 x0zn7 x0zc7, .slice x0za8 x0zn8 x0zc8, .slice x0za9 x0zn9 x0zc9] 80)) w8) := Lib.hid mC
  have HBx0w8 := HBx0 _ HXx0_8.out
  have hsHBx08_0 : w6.heap.size < w8.heap.size := by have := (HXx0_8.out).size; simp at this; omega
  try clear HBx0w7
  have HXx1_8 : Hid (More (w7.alloc (.cells #[.int .i64 y.1.1.1, .int .i64 y.1.1.2, .int .i64 y.1.2.1.1, .int .i64 y.1.2.1.2, .slice x1za4 x1zn4 x1zc4, .slice x1za5 x1zn5 x1zc5, .slice x1za6 x1zn6 x1zc6, .slice x1za7 x1zn7 x1zc7, .slice x1za8 x1zn8 x1zc8, .slice x1za9 x1zn9 x1zc9] 80)) w8) := Lib.hid mC
  have HBx1w8 := HBx1 _ HXx1_8.out
  have hsHBx18_0 : w7.heap.size < w8.heap.size := by have := (HXx1_8.out).size; simp at this; omega
  try clear HBx1w7
  go_wp2_with fail
  have RHB := fun (w' : World) (h : More w8 w') => HB w' (More.trans HXa8.out h)
  clear HBw8
  have RHBx0 := fun (w' : World) (h : More w8 w') => HBx0 w' (More.trans HXx0_8.out h)
  clear HBx0w8
  have RHBx1 := fun (w' : World) (h : More w8 w') => HBx1 w' (More.trans HXx1_8.out h)
  clear HBx1w8
  go_region_held3 (fun w' => More w8 w') (first | exact More.refl _ | exact mC) (first | (go_at_call 36; (with_reducible refine (laws_toRoad _ x _ (Ty.at_more HV0.out mC) Hs0.out).mono ?_); rintro e w9 ⟨t0, rfl, b9, Ft0⟩; obtain ⟨t0za4, t0zn4, t0zc4, t0za5, t0zn5, t0zc5, t0za6, t0zn6, t0zc6, t0za7, t0zn7, t0zc7, t0za8, t0zn8, t0zc8, t0za9, t0zn9, t0zc9, rfl⟩ := sh_Road (Ty.fresh_at Ft0)) | (go_at_call 38; (with_reducible refine (laws_eqRoad _ _ x _ (Ty.at_more (Ty.fresh_at Fx0) mC) (Ty.at_more (Ty.fresh_at Ft0) (Turns.more (by ((repeat (first | (with_reducible apply Turns.drew) | (with_reducible apply Turns.drewN) | (with_reducible apply Turns.alloc))); exact Turns.refl _ _)))) Hs0.out).mono ?_); rintro e w10 ⟨rfl, b10⟩))
  clear RHB
  clear RHBx0
  clear RHBx1
  have HXa10 : Hid (More (((W.alloc (.cells #[.int .i64 x.1.1.1, .int .i64 x.1.1.2, .int .i64 x.1.2.1.1, .int .i64 x.1.2.1.2, .slice s0a4 s0n4 s0c4, .slice s0a5 s0n5 s0c5, .slice s0a6 s0n6 s0c6, .slice s0a7 s0n7 s0c7, .slice s0a8 s0n8 s0c8, .slice s0a9 s0n9 s0c9] 75)).alloc (.cells #[.int .i64 y.1.1.1, .int .i64 y.1.1.2, .int .i64 y.1.2.1.1, .int .i64 y.1.2.1.2, .slice s1a4 s1n4 s1c4, .slice s1a5 s1n5 s1c5, .slice s1a6 s1n6 s1c6, .slice s1a7 s1n7 s1c7, .slice s1a8 s1n8 s1c8, .slice s1a9 s1n9 s1c9] 75))) w10) := Lib.hid mC
  have HBw10 := HB _ HXa10.out
  have hsHB10_0 : W.heap.size < w10.heap.size := by have := (HXa10.out).size; simp at this; omega
  have hsHB10_1 : W.heap.size + 1 < w10.heap.size := by have := (HXa10.out).size; simp at this; omega
  try clear HBw9
  have HXx0_10 : Hid (More (w6.alloc (.cells #[.int .i64 x.1.1.1, .int .i64 x.1.1.2, .int .i64 x.1.2.1.1, .int .i64 x.1.2.1.2, .slice x0za4 x0zn4 x0zc4, .slice x0za5 x0zn5 x0zc5, .slice x0za6 x0zn6 x0zc6, .slice x0za7 x0zn7 x0zc7, .slice x0za8 x0zn8 x0zc8, .slice x0za9 x0zn9 x0zc9] 80)) w10) := Lib.hid mC
  have HBx0w10 := HBx0 _ HXx0_10.out
  have hsHBx010_0 : w6.heap.size < w10.heap.size := by have := (HXx0_10.out).size; simp at this; omega
  try clear HBx0w9
  have HXx1_10 : Hid (More (w7.alloc (.cells #[.int .i64 y.1.1.1, .int .i64 y.1.1.2, .int .i64 y.1.2.1.1, .int .i64 y.1.2.1.2, .slice x1za4 x1zn4 x1zc4, .slice x1za5 x1zn5 x1zc5, .slice x1za6 x1zn6 x1zc6, .slice x1za7 x1zn7 x1zc7, .slice x1za8 x1zn8 x1zc8, .slice x1za9 x1zn9 x1zc9] 80)) w10) := Lib.hid mC
  have HBx1w10 := HBx1 _ HXx1_10.out
  have hsHBx110_0 : w7.heap.size < w10.heap.size := by have := (HXx1_10.out).size; simp at this; omega
  try clear HBx1w9
  go_wp2_with fail
  have RHB := fun (w' : World) (h : More w10 w') => HB w' (More.trans HXa10.out h)
  clear HBw10
  have RHBx0 := fun (w' : World) (h : More w10 w') => HBx0 w' (More.trans HXx0_10.out h)
  clear HBx0w10
  have RHBx1 := fun (w' : World) (h : More w10 w') => HBx1 w' (More.trans HXx1_10.out h)
  clear HBx1w10
  go_region_held3 (fun w' => More w10 w') (first | exact More.refl _ | exact mC) (first | (go_at_call 36; (with_reducible refine (laws_toRoad _ y _ (Ty.at_more HV1.out mC) Hs1.out).mono ?_); rintro e w11 ⟨t1, rfl, b11, Ft1⟩; obtain ⟨t1za4, t1zn4, t1zc4, t1za5, t1zn5, t1zc5, t1za6, t1zn6, t1zc6, t1za7, t1zn7, t1zc7, t1za8, t1zn8, t1zc8, t1za9, t1zn9, t1zc9, rfl⟩ := sh_Road (Ty.fresh_at Ft1)) | (go_at_call 38; (with_reducible refine (laws_eqRoad _ _ y _ (Ty.at_more (Ty.fresh_at Fx1) mC) (Ty.at_more (Ty.fresh_at Ft1) (Turns.more (by ((repeat (first | (with_reducible apply Turns.drew) | (with_reducible apply Turns.drewN) | (with_reducible apply Turns.alloc))); exact Turns.refl _ _)))) Hs1.out).mono ?_); rintro e w12 ⟨rfl, b12⟩))
  clear RHB
  clear RHBx0
  clear RHBx1
  have HXa12 : Hid (More (((W.alloc (.cells #[.int .i64 x.1.1.1, .int .i64 x.1.1.2, .int .i64 x.1.2.1.1, .int .i64 x.1.2.1.2, .slice s0a4 s0n4 s0c4, .slice s0a5 s0n5 s0c5, .slice s0a6 s0n6 s0c6, .slice s0a7 s0n7 s0c7, .slice s0a8 s0n8 s0c8, .slice s0a9 s0n9 s0c9] 75)).alloc (.cells #[.int .i64 y.1.1.1, .int .i64 y.1.1.2, .int .i64 y.1.2.1.1, .int .i64 y.1.2.1.2, .slice s1a4 s1n4 s1c4, .slice s1a5 s1n5 s1c5, .slice s1a6 s1n6 s1c6, .slice s1a7 s1n7 s1c7, .slice s1a8 s1n8 s1c8, .slice s1a9 s1n9 s1c9] 75))) w12) := Lib.hid mC
  have HBw12 := HB _ HXa12.out
  have hsHB12_0 : W.heap.size < w12.heap.size := by have := (HXa12.out).size; simp at this; omega
  have hsHB12_1 : W.heap.size + 1 < w12.heap.size := by have := (HXa12.out).size; simp at this; omega
  try clear HBw11
  have HXx0_12 : Hid (More (w6.alloc (.cells #[.int .i64 x.1.1.1, .int .i64 x.1.1.2, .int .i64 x.1.2.1.1, .int .i64 x.1.2.1.2, .slice x0za4 x0zn4 x0zc4, .slice x0za5 x0zn5 x0zc5, .slice x0za6 x0zn6 x0zc6, .slice x0za7 x0zn7 x0zc7, .slice x0za8 x0zn8 x0zc8, .slice x0za9 x0zn9 x0zc9] 80)) w12) := Lib.hid mC
  have HBx0w12 := HBx0 _ HXx0_12.out
  have hsHBx012_0 : w6.heap.size < w12.heap.size := by have := (HXx0_12.out).size; simp at this; omega
  try clear HBx0w11
  have HXx1_12 : Hid (More (w7.alloc (.cells #[.int .i64 y.1.1.1, .int .i64 y.1.1.2, .int .i64 y.1.2.1.1, .int .i64 y.1.2.1.2, .slice x1za4 x1zn4 x1zc4, .slice x1za5 x1zn5 x1zc5, .slice x1za6 x1zn6 x1zc6, .slice x1za7 x1zn7 x1zc7, .slice x1za8 x1zn8 x1zc8, .slice x1za9 x1zn9 x1zc9] 80)) w12) := Lib.hid mC
  have HBx1w12 := HBx1 _ HXx1_12.out
  have hsHBx112_0 : w7.heap.size < w12.heap.size := by have := (HXx1_12.out).size; simp at this; omega
  try clear HBx1w11
  go_wp2_with fail
  go_ret
  exact ⟨rfl, mC⟩
end Go.Proofs.Ytbbibfeblaocfaa
