/- FnExactCellMeetsWall returns true, for every input. -/
import Derived.Test.YteihkhniibncnaaCmw
import Derived.Test.YteihkhniibncnaaSzCell
import Derived.Test.YteihkhniibncnaaToCell
import Derived.Test.YteihkhniibncnaaEqCell
import Derived.Test.YteihkhniibncnaaSzWall
import Derived.Test.YteihkhniibncnaaToWall
import Derived.Test.YteihkhniibncnaaEqWall
import Derived.Deep.RegionHeld3
import Derived.Test.YteihkhniibncnaaRng
namespace Go.Proofs.Yteihkhniibncnaa
open Go.RowKit
set_option maxRecDepth 8000 in
set_option maxHeartbeats 3200000 in
theorem law_CellMeetsWall {W : World} (ca0 : Array Value) (x : QCell) (hv0 : tCell.at W ca0.toList x) (ca1 : Array Value) (y : QWall) (hv1 : tWall.at W ca1.toList y) :
    Calls Try.prog 6 #[.agg ca0, .agg ca1] W fun e w' => e = .returned (.bool true) ∧ More W w' := by
  obtain ⟨s0a1, s0n1, s0c1, s0a2, s0n2, s0c2, s0a4, s0n4, s0c4, s0a5, s0n5, s0c5, s0a7, s0n7, s0c7, s0a8, s0n8, s0c8, s0a10, s0n10, s0c10, s0a11, s0n11, s0c11, s0a13, s0n13, s0c13, s0a14, s0n14, s0c14, s0a16, s0n16, s0c16, s0a17, s0n17, s0c17, es0⟩ := sh_Cell hv0
  rw [es0] at hv0
  obtain rfl := arr_of es0
  clear es0
  have HV0 := Lib.hid hv0; clear hv0
  obtain ⟨s1a1, s1n1, s1c1, s1a2, s1n2, s1c2, s1a4, s1n4, s1c4, s1a5, s1n5, s1c5, s1a7, s1n7, s1c7, s1a8, s1n8, s1c8, es1⟩ := sh_Wall hv1
  rw [es1] at hv1
  obtain rfl := arr_of es1
  clear es1
  have HV1 := Lib.hid hv1; clear hv1
  by_cases hn0 : ((wCell x : Nat) : Int) ≤ 1048576
  rotate_left
  · have Hbad := Lib.hid hn0; clear hn0
    have HX : More ((W.alloc (.cells #[.bool x.1.1.1, .slice s0a1 s0n1 s0c1, .slice s0a2 s0n2 s0c2, .bool x.2.1.1.1, .slice s0a4 s0n4 s0c4, .slice s0a5 s0n5 s0c5, .bool x.2.2.1.1.1, .slice s0a7 s0n7 s0c7, .slice s0a8 s0n8 s0c8, .bool x.2.2.2.1.1.1, .slice s0a10 s0n10 s0c10, .slice s0a11 s0n11 s0c11, .bool x.2.2.2.2.1.1.1, .slice s0a13 s0n13 s0c13, .slice s0a14 s0n14 s0c14, .bool x.2.2.2.2.2.1.1, .slice s0a16 s0n16 s0c16, .slice s0a17 s0n17 s0c17] 28)).alloc (.cells #[.bool y.1.1.1, .slice s1a1 s1n1 s1c1, .slice s1a2 s1n2 s1c2, .bool y.2.1.1.1, .slice s1a4 s1n4 s1c4, .slice s1a5 s1n5 s1c5, .bool y.2.2.1.1, .slice s1a7 s1n7 s1c7, .slice s1a8 s1n8 s1c8] 83)) ((W.alloc (.cells #[.bool x.1.1.1, .slice s0a1 s0n1 s0c1, .slice s0a2 s0n2 s0c2, .bool x.2.1.1.1, .slice s0a4 s0n4 s0c4, .slice s0a5 s0n5 s0c5, .bool x.2.2.1.1.1, .slice s0a7 s0n7 s0c7, .slice s0a8 s0n8 s0c8, .bool x.2.2.2.1.1.1, .slice s0a10 s0n10 s0c10, .slice s0a11 s0n11 s0c11, .bool x.2.2.2.2.1.1.1, .slice s0a13 s0n13 s0c13, .slice s0a14 s0n14 s0c14, .bool x.2.2.2.2.2.1.1, .slice s0a16 s0n16 s0c16, .slice s0a17 s0n17 s0c17] 28)).alloc (.cells #[.bool y.1.1.1, .slice s1a1 s1n1 s1c1, .slice s1a2 s1n2 s1c2, .bool y.2.1.1.1, .slice s1a4 s1n4 s1c4, .slice s1a5 s1n5 s1c5, .bool y.2.2.1.1, .slice s1a7 s1n7 s1c7, .slice s1a8 s1n8 s1c8] 83)) := More.refl _
    have HB : ∀ w', More ((W.alloc (.cells #[.bool x.1.1.1, .slice s0a1 s0n1 s0c1, .slice s0a2 s0n2 s0c2, .bool x.2.1.1.1, .slice s0a4 s0n4 s0c4, .slice s0a5 s0n5 s0c5, .bool x.2.2.1.1.1, .slice s0a7 s0n7 s0c7, .slice s0a8 s0n8 s0c8, .bool x.2.2.2.1.1.1, .slice s0a10 s0n10 s0c10, .slice s0a11 s0n11 s0c11, .bool x.2.2.2.2.1.1.1, .slice s0a13 s0n13 s0c13, .slice s0a14 s0n14 s0c14, .bool x.2.2.2.2.2.1.1, .slice s0a16 s0n16 s0c16, .slice s0a17 s0n17 s0c17] 28)).alloc (.cells #[.bool y.1.1.1, .slice s1a1 s1n1 s1c1, .slice s1a2 s1n2 s1c2, .bool y.2.1.1.1, .slice s1a4 s1n4 s1c4, .slice s1a5 s1n5 s1c5, .bool y.2.2.1.1, .slice s1a7 s1n7 s1c7, .slice s1a8 s1n8 s1c8] 83)) w' → w'.cell? ⟨W.heap.size, 0, none⟩ = some (.bool x.1.1.1) ∧ w'.cell? ⟨W.heap.size, 1, none⟩ = some (.slice s0a1 s0n1 s0c1) ∧ w'.cell? ⟨W.heap.size, 2, none⟩ = some (.slice s0a2 s0n2 s0c2) ∧ w'.cell? ⟨W.heap.size, 3, none⟩ = some (.bool x.2.1.1.1) ∧ w'.cell? ⟨W.heap.size, 4, none⟩ = some (.slice s0a4 s0n4 s0c4) ∧ w'.cell? ⟨W.heap.size, 5, none⟩ = some (.slice s0a5 s0n5 s0c5) ∧ w'.cell? ⟨W.heap.size, 6, none⟩ = some (.bool x.2.2.1.1.1) ∧ w'.cell? ⟨W.heap.size, 7, none⟩ = some (.slice s0a7 s0n7 s0c7) ∧ w'.cell? ⟨W.heap.size, 8, none⟩ = some (.slice s0a8 s0n8 s0c8) ∧ w'.cell? ⟨W.heap.size, 9, none⟩ = some (.bool x.2.2.2.1.1.1) ∧ w'.cell? ⟨W.heap.size, 10, none⟩ = some (.slice s0a10 s0n10 s0c10) ∧ w'.cell? ⟨W.heap.size, 11, none⟩ = some (.slice s0a11 s0n11 s0c11) ∧ w'.cell? ⟨W.heap.size, 12, none⟩ = some (.bool x.2.2.2.2.1.1.1) ∧ w'.cell? ⟨W.heap.size, 13, none⟩ = some (.slice s0a13 s0n13 s0c13) ∧ w'.cell? ⟨W.heap.size, 14, none⟩ = some (.slice s0a14 s0n14 s0c14) ∧ w'.cell? ⟨W.heap.size, 15, none⟩ = some (.bool x.2.2.2.2.2.1.1) ∧ w'.cell? ⟨W.heap.size, 16, none⟩ = some (.slice s0a16 s0n16 s0c16) ∧ w'.cell? ⟨W.heap.size, 17, none⟩ = some (.slice s0a17 s0n17 s0c17) ∧ (∀ j, w'.frozen? ⟨W.heap.size, j, none⟩ = false) ∧ w'.cell? ⟨W.heap.size + 1, 0, none⟩ = some (.bool y.1.1.1) ∧ w'.cell? ⟨W.heap.size + 1, 1, none⟩ = some (.slice s1a1 s1n1 s1c1) ∧ w'.cell? ⟨W.heap.size + 1, 2, none⟩ = some (.slice s1a2 s1n2 s1c2) ∧ w'.cell? ⟨W.heap.size + 1, 3, none⟩ = some (.bool y.2.1.1.1) ∧ w'.cell? ⟨W.heap.size + 1, 4, none⟩ = some (.slice s1a4 s1n4 s1c4) ∧ w'.cell? ⟨W.heap.size + 1, 5, none⟩ = some (.slice s1a5 s1n5 s1c5) ∧ w'.cell? ⟨W.heap.size + 1, 6, none⟩ = some (.bool y.2.2.1.1) ∧ w'.cell? ⟨W.heap.size + 1, 7, none⟩ = some (.slice s1a7 s1n7 s1c7) ∧ w'.cell? ⟨W.heap.size + 1, 8, none⟩ = some (.slice s1a8 s1n8 s1c8) ∧ (∀ j, w'.frozen? ⟨W.heap.size + 1, j, none⟩ = false) := fun w' h => ⟨box_new (by simp) (More.un h) 0, box_new (by simp) (More.un h) 1, box_new (by simp) (More.un h) 2, box_new (by simp) (More.un h) 3, box_new (by simp) (More.un h) 4, box_new (by simp) (More.un h) 5, box_new (by simp) (More.un h) 6, box_new (by simp) (More.un h) 7, box_new (by simp) (More.un h) 8, box_new (by simp) (More.un h) 9, box_new (by simp) (More.un h) 10, box_new (by simp) (More.un h) 11, box_new (by simp) (More.un h) 12, box_new (by simp) (More.un h) 13, box_new (by simp) (More.un h) 14, box_new (by simp) (More.un h) 15, box_new (by simp) (More.un h) 16, box_new (by simp) (More.un h) 17, fun j => box_free (by simp) (More.un h) j, box_new (by simp) h 0, box_new (by simp) h 1, box_new (by simp) h 2, box_new (by simp) h 3, box_new (by simp) h 4, box_new (by simp) h 5, box_new (by simp) h 6, box_new (by simp) h 7, box_new (by simp) h 8, fun j => box_free (by simp) h j⟩
    have HR0 : ∀ w', More ((W.alloc (.cells #[.bool x.1.1.1, .slice s0a1 s0n1 s0c1, .slice s0a2 s0n2 s0c2, .bool x.2.1.1.1, .slice s0a4 s0n4 s0c4, .slice s0a5 s0n5 s0c5, .bool x.2.2.1.1.1, .slice s0a7 s0n7 s0c7, .slice s0a8 s0n8 s0c8, .bool x.2.2.2.1.1.1, .slice s0a10 s0n10 s0c10, .slice s0a11 s0n11 s0c11, .bool x.2.2.2.2.1.1.1, .slice s0a13 s0n13 s0c13, .slice s0a14 s0n14 s0c14, .bool x.2.2.2.2.2.1.1, .slice s0a16 s0n16 s0c16, .slice s0a17 s0n17 s0c17] 28)).alloc (.cells #[.bool y.1.1.1, .slice s1a1 s1n1 s1c1, .slice s1a2 s1n2 s1c2, .bool y.2.1.1.1, .slice s1a4 s1n4 s1c4, .slice s1a5 s1n5 s1c5, .bool y.2.2.1.1, .slice s1a7 s1n7 s1c7, .slice s1a8 s1n8 s1c8] 83)) w' → w'.rangeAt (W.heap.size) 0 [.bool x.1.1.1, .slice s0a1 s0n1 s0c1, .slice s0a2 s0n2 s0c2, .bool x.2.1.1.1, .slice s0a4 s0n4 s0c4, .slice s0a5 s0n5 s0c5, .bool x.2.2.1.1.1, .slice s0a7 s0n7 s0c7, .slice s0a8 s0n8 s0c8, .bool x.2.2.2.1.1.1, .slice s0a10 s0n10 s0c10, .slice s0a11 s0n11 s0c11, .bool x.2.2.2.2.1.1.1, .slice s0a13 s0n13 s0c13, .slice s0a14 s0n14 s0c14, .bool x.2.2.2.2.2.1.1, .slice s0a16 s0n16 s0c16, .slice s0a17 s0n17 s0c17] := fun w' h => box_range (by simp) (More.un h)
    go_enter Try.func6, Try.ntmps6
    go_wp2_with (first | (refine wpList_load_mid rfl _ _ rfl (W.heap.size) 0 rfl _ _ (HR0 _ mC) Try.underlying28 rfl (by kernel_rfl) ?_))
    refine (laws_szCell _ x _ _ (Ty.at_more HV0.out mC) (by decide) (by decide)).mono ?_
    rintro e w1 ⟨rfl, b1⟩
    have HXa1 := Lib.hid (More.trans HX (show More _ w1 from mC))
    have HBw1 := HB _ HXa1.out
    have hsHB1_0 : W.heap.size < w1.heap.size := by have := (HXa1.out).size; simp at this; omega
    have hsHB1_1 : W.heap.size + 1 < w1.heap.size := by have := (HXa1.out).size; simp at this; omega
    rw [szI_neg (by have := Hbad.out; omega)]
    go_wp2_with (first | (refine wpList_load_mid rfl _ _ rfl (W.heap.size) 0 rfl _ _ (HR0 _ mC) Try.underlying28 rfl (by kernel_rfl) ?_))
    go_ret
    exact ⟨rfl, mC⟩
  by_cases hn1 : ((wWall y : Nat) : Int) ≤ 1048576 - (wCell x : Nat)
  rotate_left
  · have Hbad := Lib.hid hn1; clear hn1
    have Hn0 := Lib.hid hn0; clear hn0
    have HX : More ((W.alloc (.cells #[.bool x.1.1.1, .slice s0a1 s0n1 s0c1, .slice s0a2 s0n2 s0c2, .bool x.2.1.1.1, .slice s0a4 s0n4 s0c4, .slice s0a5 s0n5 s0c5, .bool x.2.2.1.1.1, .slice s0a7 s0n7 s0c7, .slice s0a8 s0n8 s0c8, .bool x.2.2.2.1.1.1, .slice s0a10 s0n10 s0c10, .slice s0a11 s0n11 s0c11, .bool x.2.2.2.2.1.1.1, .slice s0a13 s0n13 s0c13, .slice s0a14 s0n14 s0c14, .bool x.2.2.2.2.2.1.1, .slice s0a16 s0n16 s0c16, .slice s0a17 s0n17 s0c17] 28)).alloc (.cells #[.bool y.1.1.1, .slice s1a1 s1n1 s1c1, .slice s1a2 s1n2 s1c2, .bool y.2.1.1.1, .slice s1a4 s1n4 s1c4, .slice s1a5 s1n5 s1c5, .bool y.2.2.1.1, .slice s1a7 s1n7 s1c7, .slice s1a8 s1n8 s1c8] 83)) ((W.alloc (.cells #[.bool x.1.1.1, .slice s0a1 s0n1 s0c1, .slice s0a2 s0n2 s0c2, .bool x.2.1.1.1, .slice s0a4 s0n4 s0c4, .slice s0a5 s0n5 s0c5, .bool x.2.2.1.1.1, .slice s0a7 s0n7 s0c7, .slice s0a8 s0n8 s0c8, .bool x.2.2.2.1.1.1, .slice s0a10 s0n10 s0c10, .slice s0a11 s0n11 s0c11, .bool x.2.2.2.2.1.1.1, .slice s0a13 s0n13 s0c13, .slice s0a14 s0n14 s0c14, .bool x.2.2.2.2.2.1.1, .slice s0a16 s0n16 s0c16, .slice s0a17 s0n17 s0c17] 28)).alloc (.cells #[.bool y.1.1.1, .slice s1a1 s1n1 s1c1, .slice s1a2 s1n2 s1c2, .bool y.2.1.1.1, .slice s1a4 s1n4 s1c4, .slice s1a5 s1n5 s1c5, .bool y.2.2.1.1, .slice s1a7 s1n7 s1c7, .slice s1a8 s1n8 s1c8] 83)) := More.refl _
    have HB : ∀ w', More ((W.alloc (.cells #[.bool x.1.1.1, .slice s0a1 s0n1 s0c1, .slice s0a2 s0n2 s0c2, .bool x.2.1.1.1, .slice s0a4 s0n4 s0c4, .slice s0a5 s0n5 s0c5, .bool x.2.2.1.1.1, .slice s0a7 s0n7 s0c7, .slice s0a8 s0n8 s0c8, .bool x.2.2.2.1.1.1, .slice s0a10 s0n10 s0c10, .slice s0a11 s0n11 s0c11, .bool x.2.2.2.2.1.1.1, .slice s0a13 s0n13 s0c13, .slice s0a14 s0n14 s0c14, .bool x.2.2.2.2.2.1.1, .slice s0a16 s0n16 s0c16, .slice s0a17 s0n17 s0c17] 28)).alloc (.cells #[.bool y.1.1.1, .slice s1a1 s1n1 s1c1, .slice s1a2 s1n2 s1c2, .bool y.2.1.1.1, .slice s1a4 s1n4 s1c4, .slice s1a5 s1n5 s1c5, .bool y.2.2.1.1, .slice s1a7 s1n7 s1c7, .slice s1a8 s1n8 s1c8] 83)) w' → w'.cell? ⟨W.heap.size, 0, none⟩ = some (.bool x.1.1.1) ∧ w'.cell? ⟨W.heap.size, 1, none⟩ = some (.slice s0a1 s0n1 s0c1) ∧ w'.cell? ⟨W.heap.size, 2, none⟩ = some (.slice s0a2 s0n2 s0c2) ∧ w'.cell? ⟨W.heap.size, 3, none⟩ = some (.bool x.2.1.1.1) ∧ w'.cell? ⟨W.heap.size, 4, none⟩ = some (.slice s0a4 s0n4 s0c4) ∧ w'.cell? ⟨W.heap.size, 5, none⟩ = some (.slice s0a5 s0n5 s0c5) ∧ w'.cell? ⟨W.heap.size, 6, none⟩ = some (.bool x.2.2.1.1.1) ∧ w'.cell? ⟨W.heap.size, 7, none⟩ = some (.slice s0a7 s0n7 s0c7) ∧ w'.cell? ⟨W.heap.size, 8, none⟩ = some (.slice s0a8 s0n8 s0c8) ∧ w'.cell? ⟨W.heap.size, 9, none⟩ = some (.bool x.2.2.2.1.1.1) ∧ w'.cell? ⟨W.heap.size, 10, none⟩ = some (.slice s0a10 s0n10 s0c10) ∧ w'.cell? ⟨W.heap.size, 11, none⟩ = some (.slice s0a11 s0n11 s0c11) ∧ w'.cell? ⟨W.heap.size, 12, none⟩ = some (.bool x.2.2.2.2.1.1.1) ∧ w'.cell? ⟨W.heap.size, 13, none⟩ = some (.slice s0a13 s0n13 s0c13) ∧ w'.cell? ⟨W.heap.size, 14, none⟩ = some (.slice s0a14 s0n14 s0c14) ∧ w'.cell? ⟨W.heap.size, 15, none⟩ = some (.bool x.2.2.2.2.2.1.1) ∧ w'.cell? ⟨W.heap.size, 16, none⟩ = some (.slice s0a16 s0n16 s0c16) ∧ w'.cell? ⟨W.heap.size, 17, none⟩ = some (.slice s0a17 s0n17 s0c17) ∧ (∀ j, w'.frozen? ⟨W.heap.size, j, none⟩ = false) ∧ w'.cell? ⟨W.heap.size + 1, 0, none⟩ = some (.bool y.1.1.1) ∧ w'.cell? ⟨W.heap.size + 1, 1, none⟩ = some (.slice s1a1 s1n1 s1c1) ∧ w'.cell? ⟨W.heap.size + 1, 2, none⟩ = some (.slice s1a2 s1n2 s1c2) ∧ w'.cell? ⟨W.heap.size + 1, 3, none⟩ = some (.bool y.2.1.1.1) ∧ w'.cell? ⟨W.heap.size + 1, 4, none⟩ = some (.slice s1a4 s1n4 s1c4) ∧ w'.cell? ⟨W.heap.size + 1, 5, none⟩ = some (.slice s1a5 s1n5 s1c5) ∧ w'.cell? ⟨W.heap.size + 1, 6, none⟩ = some (.bool y.2.2.1.1) ∧ w'.cell? ⟨W.heap.size + 1, 7, none⟩ = some (.slice s1a7 s1n7 s1c7) ∧ w'.cell? ⟨W.heap.size + 1, 8, none⟩ = some (.slice s1a8 s1n8 s1c8) ∧ (∀ j, w'.frozen? ⟨W.heap.size + 1, j, none⟩ = false) := fun w' h => ⟨box_new (by simp) (More.un h) 0, box_new (by simp) (More.un h) 1, box_new (by simp) (More.un h) 2, box_new (by simp) (More.un h) 3, box_new (by simp) (More.un h) 4, box_new (by simp) (More.un h) 5, box_new (by simp) (More.un h) 6, box_new (by simp) (More.un h) 7, box_new (by simp) (More.un h) 8, box_new (by simp) (More.un h) 9, box_new (by simp) (More.un h) 10, box_new (by simp) (More.un h) 11, box_new (by simp) (More.un h) 12, box_new (by simp) (More.un h) 13, box_new (by simp) (More.un h) 14, box_new (by simp) (More.un h) 15, box_new (by simp) (More.un h) 16, box_new (by simp) (More.un h) 17, fun j => box_free (by simp) (More.un h) j, box_new (by simp) h 0, box_new (by simp) h 1, box_new (by simp) h 2, box_new (by simp) h 3, box_new (by simp) h 4, box_new (by simp) h 5, box_new (by simp) h 6, box_new (by simp) h 7, box_new (by simp) h 8, fun j => box_free (by simp) h j⟩
    have HR0 : ∀ w', More ((W.alloc (.cells #[.bool x.1.1.1, .slice s0a1 s0n1 s0c1, .slice s0a2 s0n2 s0c2, .bool x.2.1.1.1, .slice s0a4 s0n4 s0c4, .slice s0a5 s0n5 s0c5, .bool x.2.2.1.1.1, .slice s0a7 s0n7 s0c7, .slice s0a8 s0n8 s0c8, .bool x.2.2.2.1.1.1, .slice s0a10 s0n10 s0c10, .slice s0a11 s0n11 s0c11, .bool x.2.2.2.2.1.1.1, .slice s0a13 s0n13 s0c13, .slice s0a14 s0n14 s0c14, .bool x.2.2.2.2.2.1.1, .slice s0a16 s0n16 s0c16, .slice s0a17 s0n17 s0c17] 28)).alloc (.cells #[.bool y.1.1.1, .slice s1a1 s1n1 s1c1, .slice s1a2 s1n2 s1c2, .bool y.2.1.1.1, .slice s1a4 s1n4 s1c4, .slice s1a5 s1n5 s1c5, .bool y.2.2.1.1, .slice s1a7 s1n7 s1c7, .slice s1a8 s1n8 s1c8] 83)) w' → w'.rangeAt (W.heap.size) 0 [.bool x.1.1.1, .slice s0a1 s0n1 s0c1, .slice s0a2 s0n2 s0c2, .bool x.2.1.1.1, .slice s0a4 s0n4 s0c4, .slice s0a5 s0n5 s0c5, .bool x.2.2.1.1.1, .slice s0a7 s0n7 s0c7, .slice s0a8 s0n8 s0c8, .bool x.2.2.2.1.1.1, .slice s0a10 s0n10 s0c10, .slice s0a11 s0n11 s0c11, .bool x.2.2.2.2.1.1.1, .slice s0a13 s0n13 s0c13, .slice s0a14 s0n14 s0c14, .bool x.2.2.2.2.2.1.1, .slice s0a16 s0n16 s0c16, .slice s0a17 s0n17 s0c17] := fun w' h => box_range (by simp) (More.un h)
    go_enter Try.func6, Try.ntmps6
    go_wp2_with (first | (refine wpList_load_mid rfl _ _ rfl (W.heap.size) 0 rfl _ _ (HR0 _ mC) Try.underlying28 rfl (by kernel_rfl) ?_))
    refine (laws_szCell _ x _ _ (Ty.at_more HV0.out mC) (by decide) (by decide)).mono ?_
    rintro e w1 ⟨rfl, b1⟩
    have HXa1 := Lib.hid (More.trans HX (show More _ w1 from mC))
    have HBw1 := HB _ HXa1.out
    have hsHB1_0 : W.heap.size < w1.heap.size := by have := (HXa1.out).size; simp at this; omega
    have hsHB1_1 : W.heap.size + 1 < w1.heap.size := by have := (HXa1.out).size; simp at this; omega
    rw [szI_pos (by have := Hn0.out; omega)]
    have z0 : 0 ≤ (1048576 : Int) - (wCell x : Nat) := by have := Hn0.out; omega
    go_wp2_with (first | (refine wpList_load_mid rfl _ _ rfl (W.heap.size) 0 rfl _ _ (HR0 _ mC) Try.underlying28 rfl (by kernel_rfl) ?_))
    refine (laws_szWall _ y _ _ (Ty.at_more HV1.out mC) (by have := Hn0.out; omega) (by omega)).mono ?_
    rintro e w2 ⟨rfl, b2⟩
    have HXa2 := Lib.hid (More.trans HX (show More _ w2 from mC))
    have HBw2 := HB _ HXa2.out
    have hsHB2_0 : W.heap.size < w2.heap.size := by have := (HXa2.out).size; simp at this; omega
    have hsHB2_1 : W.heap.size + 1 < w2.heap.size := by have := (HXa2.out).size; simp at this; omega
    try clear HBw1
    rw [szI_neg (by have := Hbad.out; omega)]
    go_wp2_with (first | (refine wpList_load_mid rfl _ _ rfl (W.heap.size) 0 rfl _ _ (HR0 _ mC) Try.underlying28 rfl (by kernel_rfl) ?_))
    go_ret
    exact ⟨rfl, mC⟩
  have Hn0 := Lib.hid hn0
  have Hn1 := Lib.hid hn1
  have Hs0 : Hid (wCell x ≤ 1048576) := Lib.hid (by omega)
  have Hs1 : Hid (wWall y ≤ 1048576) := Lib.hid (by omega)
  clear hn0 hn1
  have HX : More ((W.alloc (.cells #[.bool x.1.1.1, .slice s0a1 s0n1 s0c1, .slice s0a2 s0n2 s0c2, .bool x.2.1.1.1, .slice s0a4 s0n4 s0c4, .slice s0a5 s0n5 s0c5, .bool x.2.2.1.1.1, .slice s0a7 s0n7 s0c7, .slice s0a8 s0n8 s0c8, .bool x.2.2.2.1.1.1, .slice s0a10 s0n10 s0c10, .slice s0a11 s0n11 s0c11, .bool x.2.2.2.2.1.1.1, .slice s0a13 s0n13 s0c13, .slice s0a14 s0n14 s0c14, .bool x.2.2.2.2.2.1.1, .slice s0a16 s0n16 s0c16, .slice s0a17 s0n17 s0c17] 28)).alloc (.cells #[.bool y.1.1.1, .slice s1a1 s1n1 s1c1, .slice s1a2 s1n2 s1c2, .bool y.2.1.1.1, .slice s1a4 s1n4 s1c4, .slice s1a5 s1n5 s1c5, .bool y.2.2.1.1, .slice s1a7 s1n7 s1c7, .slice s1a8 s1n8 s1c8] 83)) ((W.alloc (.cells #[.bool x.1.1.1, .slice s0a1 s0n1 s0c1, .slice s0a2 s0n2 s0c2, .bool x.2.1.1.1, .slice s0a4 s0n4 s0c4, .slice s0a5 s0n5 s0c5, .bool x.2.2.1.1.1, .slice s0a7 s0n7 s0c7, .slice s0a8 s0n8 s0c8, .bool x.2.2.2.1.1.1, .slice s0a10 s0n10 s0c10, .slice s0a11 s0n11 s0c11, .bool x.2.2.2.2.1.1.1, .slice s0a13 s0n13 s0c13, .slice s0a14 s0n14 s0c14, .bool x.2.2.2.2.2.1.1, .slice s0a16 s0n16 s0c16, .slice s0a17 s0n17 s0c17] 28)).alloc (.cells #[.bool y.1.1.1, .slice s1a1 s1n1 s1c1, .slice s1a2 s1n2 s1c2, .bool y.2.1.1.1, .slice s1a4 s1n4 s1c4, .slice s1a5 s1n5 s1c5, .bool y.2.2.1.1, .slice s1a7 s1n7 s1c7, .slice s1a8 s1n8 s1c8] 83)) := More.refl _
  have HB : ∀ w', More ((W.alloc (.cells #[.bool x.1.1.1, .slice s0a1 s0n1 s0c1, .slice s0a2 s0n2 s0c2, .bool x.2.1.1.1, .slice s0a4 s0n4 s0c4, .slice s0a5 s0n5 s0c5, .bool x.2.2.1.1.1, .slice s0a7 s0n7 s0c7, .slice s0a8 s0n8 s0c8, .bool x.2.2.2.1.1.1, .slice s0a10 s0n10 s0c10, .slice s0a11 s0n11 s0c11, .bool x.2.2.2.2.1.1.1, .slice s0a13 s0n13 s0c13, .slice s0a14 s0n14 s0c14, .bool x.2.2.2.2.2.1.1, .slice s0a16 s0n16 s0c16, .slice s0a17 s0n17 s0c17] 28)).alloc (.cells #[.bool y.1.1.1, .slice s1a1 s1n1 s1c1, .slice s1a2 s1n2 s1c2, .bool y.2.1.1.1, .slice s1a4 s1n4 s1c4, .slice s1a5 s1n5 s1c5, .bool y.2.2.1.1, .slice s1a7 s1n7 s1c7, .slice s1a8 s1n8 s1c8] 83)) w' → w'.cell? ⟨W.heap.size, 0, none⟩ = some (.bool x.1.1.1) ∧ w'.cell? ⟨W.heap.size, 1, none⟩ = some (.slice s0a1 s0n1 s0c1) ∧ w'.cell? ⟨W.heap.size, 2, none⟩ = some (.slice s0a2 s0n2 s0c2) ∧ w'.cell? ⟨W.heap.size, 3, none⟩ = some (.bool x.2.1.1.1) ∧ w'.cell? ⟨W.heap.size, 4, none⟩ = some (.slice s0a4 s0n4 s0c4) ∧ w'.cell? ⟨W.heap.size, 5, none⟩ = some (.slice s0a5 s0n5 s0c5) ∧ w'.cell? ⟨W.heap.size, 6, none⟩ = some (.bool x.2.2.1.1.1) ∧ w'.cell? ⟨W.heap.size, 7, none⟩ = some (.slice s0a7 s0n7 s0c7) ∧ w'.cell? ⟨W.heap.size, 8, none⟩ = some (.slice s0a8 s0n8 s0c8) ∧ w'.cell? ⟨W.heap.size, 9, none⟩ = some (.bool x.2.2.2.1.1.1) ∧ w'.cell? ⟨W.heap.size, 10, none⟩ = some (.slice s0a10 s0n10 s0c10) ∧ w'.cell? ⟨W.heap.size, 11, none⟩ = some (.slice s0a11 s0n11 s0c11) ∧ w'.cell? ⟨W.heap.size, 12, none⟩ = some (.bool x.2.2.2.2.1.1.1) ∧ w'.cell? ⟨W.heap.size, 13, none⟩ = some (.slice s0a13 s0n13 s0c13) ∧ w'.cell? ⟨W.heap.size, 14, none⟩ = some (.slice s0a14 s0n14 s0c14) ∧ w'.cell? ⟨W.heap.size, 15, none⟩ = some (.bool x.2.2.2.2.2.1.1) ∧ w'.cell? ⟨W.heap.size, 16, none⟩ = some (.slice s0a16 s0n16 s0c16) ∧ w'.cell? ⟨W.heap.size, 17, none⟩ = some (.slice s0a17 s0n17 s0c17) ∧ (∀ j, w'.frozen? ⟨W.heap.size, j, none⟩ = false) ∧ w'.cell? ⟨W.heap.size + 1, 0, none⟩ = some (.bool y.1.1.1) ∧ w'.cell? ⟨W.heap.size + 1, 1, none⟩ = some (.slice s1a1 s1n1 s1c1) ∧ w'.cell? ⟨W.heap.size + 1, 2, none⟩ = some (.slice s1a2 s1n2 s1c2) ∧ w'.cell? ⟨W.heap.size + 1, 3, none⟩ = some (.bool y.2.1.1.1) ∧ w'.cell? ⟨W.heap.size + 1, 4, none⟩ = some (.slice s1a4 s1n4 s1c4) ∧ w'.cell? ⟨W.heap.size + 1, 5, none⟩ = some (.slice s1a5 s1n5 s1c5) ∧ w'.cell? ⟨W.heap.size + 1, 6, none⟩ = some (.bool y.2.2.1.1) ∧ w'.cell? ⟨W.heap.size + 1, 7, none⟩ = some (.slice s1a7 s1n7 s1c7) ∧ w'.cell? ⟨W.heap.size + 1, 8, none⟩ = some (.slice s1a8 s1n8 s1c8) ∧ (∀ j, w'.frozen? ⟨W.heap.size + 1, j, none⟩ = false) := fun w' h => ⟨box_new (by simp) (More.un h) 0, box_new (by simp) (More.un h) 1, box_new (by simp) (More.un h) 2, box_new (by simp) (More.un h) 3, box_new (by simp) (More.un h) 4, box_new (by simp) (More.un h) 5, box_new (by simp) (More.un h) 6, box_new (by simp) (More.un h) 7, box_new (by simp) (More.un h) 8, box_new (by simp) (More.un h) 9, box_new (by simp) (More.un h) 10, box_new (by simp) (More.un h) 11, box_new (by simp) (More.un h) 12, box_new (by simp) (More.un h) 13, box_new (by simp) (More.un h) 14, box_new (by simp) (More.un h) 15, box_new (by simp) (More.un h) 16, box_new (by simp) (More.un h) 17, fun j => box_free (by simp) (More.un h) j, box_new (by simp) h 0, box_new (by simp) h 1, box_new (by simp) h 2, box_new (by simp) h 3, box_new (by simp) h 4, box_new (by simp) h 5, box_new (by simp) h 6, box_new (by simp) h 7, box_new (by simp) h 8, fun j => box_free (by simp) h j⟩
  have HR0 : ∀ w', More ((W.alloc (.cells #[.bool x.1.1.1, .slice s0a1 s0n1 s0c1, .slice s0a2 s0n2 s0c2, .bool x.2.1.1.1, .slice s0a4 s0n4 s0c4, .slice s0a5 s0n5 s0c5, .bool x.2.2.1.1.1, .slice s0a7 s0n7 s0c7, .slice s0a8 s0n8 s0c8, .bool x.2.2.2.1.1.1, .slice s0a10 s0n10 s0c10, .slice s0a11 s0n11 s0c11, .bool x.2.2.2.2.1.1.1, .slice s0a13 s0n13 s0c13, .slice s0a14 s0n14 s0c14, .bool x.2.2.2.2.2.1.1, .slice s0a16 s0n16 s0c16, .slice s0a17 s0n17 s0c17] 28)).alloc (.cells #[.bool y.1.1.1, .slice s1a1 s1n1 s1c1, .slice s1a2 s1n2 s1c2, .bool y.2.1.1.1, .slice s1a4 s1n4 s1c4, .slice s1a5 s1n5 s1c5, .bool y.2.2.1.1, .slice s1a7 s1n7 s1c7, .slice s1a8 s1n8 s1c8] 83)) w' → w'.rangeAt (W.heap.size) 0 [.bool x.1.1.1, .slice s0a1 s0n1 s0c1, .slice s0a2 s0n2 s0c2, .bool x.2.1.1.1, .slice s0a4 s0n4 s0c4, .slice s0a5 s0n5 s0c5, .bool x.2.2.1.1.1, .slice s0a7 s0n7 s0c7, .slice s0a8 s0n8 s0c8, .bool x.2.2.2.1.1.1, .slice s0a10 s0n10 s0c10, .slice s0a11 s0n11 s0c11, .bool x.2.2.2.2.1.1.1, .slice s0a13 s0n13 s0c13, .slice s0a14 s0n14 s0c14, .bool x.2.2.2.2.2.1.1, .slice s0a16 s0n16 s0c16, .slice s0a17 s0n17 s0c17] := fun w' h => box_range (by simp) (More.un h)
  go_enter Try.func6, Try.ntmps6
  go_wp2_with (first | (refine wpList_load_mid rfl _ _ rfl (W.heap.size) 0 rfl _ _ (HR0 _ mC) Try.underlying28 rfl (by kernel_rfl) ?_))
  refine (laws_szCell _ x _ _ (Ty.at_more HV0.out mC) (by decide) (by decide)).mono ?_
  rintro e w1 ⟨rfl, b1⟩
  have HXa1 := Lib.hid (More.trans HX (show More _ w1 from mC))
  have HBw1 := HB _ HXa1.out
  have hsHB1_0 : W.heap.size < w1.heap.size := by have := (HXa1.out).size; simp at this; omega
  have hsHB1_1 : W.heap.size + 1 < w1.heap.size := by have := (HXa1.out).size; simp at this; omega
  rw [szI_pos (by have := Hn0.out; omega)]
  have z0 : 0 ≤ (1048576 : Int) - (wCell x : Nat) := by have := Hn0.out; omega
  go_wp2_with (first | (refine wpList_load_mid rfl _ _ rfl (W.heap.size) 0 rfl _ _ (HR0 _ mC) Try.underlying28 rfl (by kernel_rfl) ?_))
  refine (laws_szWall _ y _ _ (Ty.at_more HV1.out mC) (by have := Hn0.out; omega) (by omega)).mono ?_
  rintro e w2 ⟨rfl, b2⟩
  have HXa2 := Lib.hid (More.trans HX (show More _ w2 from mC))
  have HBw2 := HB _ HXa2.out
  have hsHB2_0 : W.heap.size < w2.heap.size := by have := (HXa2.out).size; simp at this; omega
  have hsHB2_1 : W.heap.size + 1 < w2.heap.size := by have := (HXa2.out).size; simp at this; omega
  try clear HBw1
  rw [szI_pos (by have := Hn1.out; omega)]
  have z1 : 0 ≤ (1048576 : Int) - (wCell x : Nat) - (wWall y : Nat) := by have := Hn1.out; omega
  go_wp2_with (first | (refine wpList_load_mid rfl _ _ rfl (W.heap.size) 0 rfl _ _ (HR0 _ mC) Try.underlying28 rfl (by kernel_rfl) ?_))
  have RHB := fun (w' : World) (h : More w2 w') => HB w' (More.trans HXa2.out h)
  clear HBw2
  refine wp_region_held_drew (S := (fun w' => More w2 w')) (by kernel_rfl) ?_ (fun hHeld => ?_)
  · first | exact More.refl _ | exact mC | exact mC2
  refine wpAnyH_take (i := 0) (oi := ⟨some 20, _, _, _, _, _⟩) (v := .agg ([.bool x.1.1.1, .slice s0a1 s0n1 s0c1, .slice s0a2 s0n2 s0c2, .bool x.2.1.1.1, .slice s0a4 s0n4 s0c4, .slice s0a5 s0n5 s0c5, .bool x.2.2.1.1.1, .slice s0a7 s0n7 s0c7, .slice s0a8 s0n8 s0c8, .bool x.2.2.2.1.1.1, .slice s0a10 s0n10 s0c10, .slice s0a11 s0n11 s0c11, .bool x.2.2.2.2.1.1.1, .slice s0a13 s0n13 s0c13, .slice s0a14 s0n14 s0c14, .bool x.2.2.2.2.2.1.1, .slice s0a16 s0n16 s0c16, .slice s0a17 s0n17 s0c17] : List Value).toArray) rfl (by kernel_rfl) (by kernel_rfl) (by kernel_rfl) (fun _ _ _ h => h) (yieldsIf_load_mid (by rfl) _ _ rfl (W.heap.size) 0 rfl [.bool x.1.1.1, .slice s0a1 s0n1 s0c1, .slice s0a2 s0n2 s0c2, .bool x.2.1.1.1, .slice s0a4 s0n4 s0c4, .slice s0a5 s0n5 s0c5, .bool x.2.2.1.1.1, .slice s0a7 s0n7 s0c7, .slice s0a8 s0n8 s0c8, .bool x.2.2.2.1.1.1, .slice s0a10 s0n10 s0c10, .slice s0a11 s0n11 s0c11, .bool x.2.2.2.2.1.1.1, .slice s0a13 s0n13 s0c13, .slice s0a14 s0n14 s0c14, .bool x.2.2.2.2.2.1.1, .slice s0a16 s0n16 s0c16, .slice s0a17 s0n17 s0c17] _ (fun _ hS => HR0 _ (More.trans mC hS)) Try.underlying28 rfl (by kernel_rfl)) (by assumption) ?_
  (try simp only [Act.put, List.setIfInBounds_toArray, List.set_cons_zero, List.set_cons_succ])
  refine wpAnyH_take (i := 2) (oi := ⟨some 22, _, _, _, _, _⟩) (v := ?_) rfl (by kernel_rfl) (by kernel_rfl) (by kernel_rfl) (fun _ _ _ h => h) (Or.inl ⟨by rfl, ?_⟩) (by assumption) ?_
  rotate_left
  · (intro w hSw; (try dsimp only at hSw); go_simp; (try with_reducible rfl))
  (try simp only [Act.put, List.setIfInBounds_toArray, List.set_cons_zero, List.set_cons_succ])
  refine wpAnyH_ready (rs := [1]) (by kernel_rfl) (by simp) ?_
  refine AllReadyH.cons (o := ⟨some 21, _, _, _, _, _⟩) rfl (fun K hK => ?_) AllReadyH.nil
  go_simp
  (go_at_call 11; (with_reducible refine (laws_toCell _ x _ (Ty.at_more HV0.out mC) Hs0.out).mono ?_); rintro e w3 ⟨c0, rfl, b3, Fc0⟩; obtain ⟨c0za1, c0zn1, c0zc1, c0za2, c0zn2, c0zc2, c0za4, c0zn4, c0zc4, c0za5, c0zn5, c0zc5, c0za7, c0zn7, c0zc7, c0za8, c0zn8, c0zc8, c0za10, c0zn10, c0zc10, c0za11, c0zn11, c0zc11, c0za13, c0zn13, c0zc13, c0za14, c0zn14, c0zc14, c0za16, c0zn16, c0zc16, c0za17, c0zn17, c0zc17, rfl⟩ := sh_Cell (Ty.fresh_at Fc0))
  refine hK.out _ _ ?_ (fun hHeld => ?_)
  · first | exact More.refl _ | exact mC | exact mC2
  clear hK K
  (try simp only [Act.put, List.setIfInBounds_toArray, List.set_cons_zero, List.set_cons_succ])
  refine wpAnyH_ready (rs := [3]) (by kernel_rfl) (by simp) ?_
  refine AllReadyH.cons (o := ⟨some 23, _, _, _, _, _⟩) rfl (fun K hK => ?_) AllReadyH.nil
  go_simp
  (go_at_call 42; (with_reducible refine (laws_toWall _ y _ (Ty.at_more HV1.out mC) Hs1.out).mono ?_); rintro e w4 ⟨c1, rfl, b4, Fc1⟩; obtain ⟨c1za1, c1zn1, c1zc1, c1za2, c1zn2, c1zc2, c1za4, c1zn4, c1zc4, c1za5, c1zn5, c1zc5, c1za7, c1zn7, c1zc7, c1za8, c1zn8, c1zc8, rfl⟩ := sh_Wall (Ty.fresh_at Fc1))
  refine hK.out _ _ ?_ (fun hHeld => ?_)
  · first | exact More.refl _ | exact mC | exact mC2
  clear hK K
  (try simp only [Act.put, List.setIfInBounds_toArray, List.set_cons_zero, List.set_cons_succ])
  refine wpAnyH_ready (rs := [4]) (by kernel_rfl) (by simp) ?_
  refine AllReadyH.cons (o := ⟨some 24, _, _, _, _, _⟩) rfl (fun K hK => ?_) AllReadyH.nil
  go_simp
  (go_at_call 41; (with_reducible refine (spec_CellMeetsWall _ x.1 x.2.1 x.2.2.1 x.2.2.2.1 x.2.2.2.2.1 x.2.2.2.2.2 _ y.1 y.2.1 y.2.2 _ (Ty.at_more (Ty.fresh_at Fc0) (Turns.more (by ((repeat (first | (with_reducible apply Turns.drew) | (with_reducible apply Turns.drewN) | (with_reducible apply Turns.alloc))); (with_reducible refine Turns.via b4 ?_); (repeat (first | (with_reducible apply Turns.drew) | (with_reducible apply Turns.drewN) | (with_reducible apply Turns.alloc))); exact Turns.refl _ _)))) Hs0.out (Ty.at_more (Ty.fresh_at Fc1) (Turns.more (by ((repeat (first | (with_reducible apply Turns.drew) | (with_reducible apply Turns.drewN) | (with_reducible apply Turns.alloc))); exact Turns.refl _ _)))) Hs1.out).mono ?_); rintro e w5 ⟨rfl, b5⟩)
  refine hK.out _ _ ?_ (fun hHeld => ?_)
  · first | exact More.refl _ | exact mC | exact mC2
  clear hK K
  (try simp only [Act.put, List.setIfInBounds_toArray, List.set_cons_zero, List.set_cons_succ])
  refine wpAnyH_take (i := 5) (oi := ⟨some 6, _, _, _, _, _⟩) (v := ?_) rfl (by kernel_rfl) (by kernel_rfl) (by kernel_rfl) (fun _ _ _ h => h) (Or.inl ⟨by rfl, ?_⟩) (by assumption) ?_
  rotate_left
  · (intro w hSw; (try dsimp only at hSw); go_simp; (try with_reducible rfl))
  (try simp only [Act.put, List.setIfInBounds_toArray, List.set_cons_zero, List.set_cons_succ])
  refine wpAnyH_done (by kernel_rfl) ?_ _
  clear RHB
  have HXa5 := Lib.hid (More.trans HX (show More _ w5 from mC))
  have HBw5 := HB _ HXa5.out
  have hsHB5_0 : W.heap.size < w5.heap.size := by have := (HXa5.out).size; simp at this; omega
  have hsHB5_1 : W.heap.size + 1 < w5.heap.size := by have := (HXa5.out).size; simp at this; omega
  try clear HBw4
  go_wp2_with (first | (refine wpList_load_mid rfl _ _ rfl (W.heap.size) 0 rfl _ _ (HR0 _ mC) Try.underlying28 rfl (by kernel_rfl) ?_))
  refine (laws_toCell _ x _ (Ty.at_more HV0.out mC) Hs0.out).mono ?_
  rintro e w6 ⟨x0, rfl, b6, Fx0⟩
  have HXa6 := Lib.hid (More.trans HX (show More _ w6 from mC))
  have HBw6 := HB _ HXa6.out
  have hsHB6_0 : W.heap.size < w6.heap.size := by have := (HXa6.out).size; simp at this; omega
  have hsHB6_1 : W.heap.size + 1 < w6.heap.size := by have := (HXa6.out).size; simp at this; omega
  try clear HBw5
  obtain ⟨x0za1, x0zn1, x0zc1, x0za2, x0zn2, x0zc2, x0za4, x0zn4, x0zc4, x0za5, x0zn5, x0zc5, x0za7, x0zn7, x0zc7, x0za8, x0zn8, x0zc8, x0za10, x0zn10, x0zc10, x0za11, x0zn11, x0zc11, x0za13, x0zn13, x0zc13, x0za14, x0zn14, x0zc14, x0za16, x0zn16, x0zc16, x0za17, x0zn17, x0zc17, rfl⟩ := sh_Cell (Ty.fresh_at Fx0)
  have HBx0 : ∀ w', More (w6.alloc (.cells #[.bool x.1.1.1, .slice x0za1 x0zn1 x0zc1, .slice x0za2 x0zn2 x0zc2, .bool x.2.1.1.1, .slice x0za4 x0zn4 x0zc4, .slice x0za5 x0zn5 x0zc5, .bool x.2.2.1.1.1, .slice x0za7 x0zn7 x0zc7, .slice x0za8 x0zn8 x0zc8, .bool x.2.2.2.1.1.1, .slice x0za10 x0zn10 x0zc10, .slice x0za11 x0zn11 x0zc11, .bool x.2.2.2.2.1.1.1, .slice x0za13 x0zn13 x0zc13, .slice x0za14 x0zn14 x0zc14, .bool x.2.2.2.2.2.1.1, .slice x0za16 x0zn16 x0zc16, .slice x0za17 x0zn17 x0zc17] 37)) w' → w'.cell? ⟨w6.heap.size, 0, none⟩ = some (.bool x.1.1.1) ∧ w'.cell? ⟨w6.heap.size, 1, none⟩ = some (.slice x0za1 x0zn1 x0zc1) ∧ w'.cell? ⟨w6.heap.size, 2, none⟩ = some (.slice x0za2 x0zn2 x0zc2) ∧ w'.cell? ⟨w6.heap.size, 3, none⟩ = some (.bool x.2.1.1.1) ∧ w'.cell? ⟨w6.heap.size, 4, none⟩ = some (.slice x0za4 x0zn4 x0zc4) ∧ w'.cell? ⟨w6.heap.size, 5, none⟩ = some (.slice x0za5 x0zn5 x0zc5) ∧ w'.cell? ⟨w6.heap.size, 6, none⟩ = some (.bool x.2.2.1.1.1) ∧ w'.cell? ⟨w6.heap.size, 7, none⟩ = some (.slice x0za7 x0zn7 x0zc7) ∧ w'.cell? ⟨w6.heap.size, 8, none⟩ = some (.slice x0za8 x0zn8 x0zc8) ∧ w'.cell? ⟨w6.heap.size, 9, none⟩ = some (.bool x.2.2.2.1.1.1) ∧ w'.cell? ⟨w6.heap.size, 10, none⟩ = some (.slice x0za10 x0zn10 x0zc10) ∧ w'.cell? ⟨w6.heap.size, 11, none⟩ = some (.slice x0za11 x0zn11 x0zc11) ∧ w'.cell? ⟨w6.heap.size, 12, none⟩ = some (.bool x.2.2.2.2.1.1.1) ∧ w'.cell? ⟨w6.heap.size, 13, none⟩ = some (.slice x0za13 x0zn13 x0zc13) ∧ w'.cell? ⟨w6.heap.size, 14, none⟩ = some (.slice x0za14 x0zn14 x0zc14) ∧ w'.cell? ⟨w6.heap.size, 15, none⟩ = some (.bool x.2.2.2.2.2.1.1) ∧ w'.cell? ⟨w6.heap.size, 16, none⟩ = some (.slice x0za16 x0zn16 x0zc16) ∧ w'.cell? ⟨w6.heap.size, 17, none⟩ = some (.slice x0za17 x0zn17 x0zc17) := fun w' h => ⟨box_new rfl h 0, box_new rfl h 1, box_new rfl h 2, box_new rfl h 3, box_new rfl h 4, box_new rfl h 5, box_new rfl h 6, box_new rfl h 7, box_new rfl h 8, box_new rfl h 9, box_new rfl h 10, box_new rfl h 11, box_new rfl h 12, box_new rfl h 13, box_new rfl h 14, box_new rfl h 15, box_new rfl h 16, box_new rfl h 17⟩
  have HRx0 : ∀ w', More (w6.alloc (.cells #[.bool x.1.1.1, .slice x0za1 x0zn1 x0zc1, .slice x0za2 x0zn2 x0zc2, .bool x.2.1.1.1, .slice x0za4 x0zn4 x0zc4, .slice x0za5 x0zn5 x0zc5, .bool x.2.2.1.1.1, .slice x0za7 x0zn7 x0zc7, .slice x0za8 x0zn8 x0zc8, .bool x.2.2.2.1.1.1, .slice x0za10 x0zn10 x0zc10, .slice x0za11 x0zn11 x0zc11, .bool x.2.2.2.2.1.1.1, .slice x0za13 x0zn13 x0zc13, .slice x0za14 x0zn14 x0zc14, .bool x.2.2.2.2.2.1.1, .slice x0za16 x0zn16 x0zc16, .slice x0za17 x0zn17 x0zc17] 37)) w' → w'.rangeAt (w6.heap.size) 0 [.bool x.1.1.1, .slice x0za1 x0zn1 x0zc1, .slice x0za2 x0zn2 x0zc2, .bool x.2.1.1.1, .slice x0za4 x0zn4 x0zc4, .slice x0za5 x0zn5 x0zc5, .bool x.2.2.1.1.1, .slice x0za7 x0zn7 x0zc7, .slice x0za8 x0zn8 x0zc8, .bool x.2.2.2.1.1.1, .slice x0za10 x0zn10 x0zc10, .slice x0za11 x0zn11 x0zc11, .bool x.2.2.2.2.1.1.1, .slice x0za13 x0zn13 x0zc13, .slice x0za14 x0zn14 x0zc14, .bool x.2.2.2.2.2.1.1, .slice x0za16 x0zn16 x0zc16, .slice x0za17 x0zn17 x0zc17] := fun w' h => box_range rfl h
  go_wp2_with (first | (refine wpList_load_mid rfl _ _ rfl (W.heap.size) 0 rfl _ _ (HR0 _ mC) Try.underlying28 rfl (by kernel_rfl) ?_) | (refine wpList_load_mid rfl _ _ rfl (w6.heap.size) 0 rfl _ _ (HRx0 _ mC) Try.underlying37 rfl (by kernel_rfl) ?_))
  refine (laws_toWall _ y _ (Ty.at_more HV1.out mC) Hs1.out).mono ?_
  rintro e w7 ⟨x1, rfl, b7, Fx1⟩
  have HXa7 := Lib.hid (More.trans HX (show More _ w7 from mC))
  have HBw7 := HB _ HXa7.out
  have hsHB7_0 : W.heap.size < w7.heap.size := by have := (HXa7.out).size; simp at this; omega
  have hsHB7_1 : W.heap.size + 1 < w7.heap.size := by have := (HXa7.out).size; simp at this; omega
  try clear HBw6
  have HXx0_7 : Hid (More (w6.alloc (.cells #[.bool x.1.1.1, .slice x0za1 x0zn1 x0zc1, .slice x0za2 x0zn2 x0zc2, .bool x.2.1.1.1, .slice x0za4 x0zn4 x0zc4, .slice x0za5 x0zn5 x0zc5, .bool x.2.2.1.1.1, .slice x0za7 x0zn7 x0zc7, .slice x0za8 x0zn8 x0zc8, .bool x.2.2.2.1.1.1, .slice x0za10 x0zn10 x0zc10, .slice x0za11 x0zn11 x0zc11, .bool x.2.2.2.2.1.1.1, .slice x0za13 x0zn13 x0zc13, .slice x0za14 x0zn14 x0zc14, .bool x.2.2.2.2.2.1.1, .slice x0za16 x0zn16 x0zc16, .slice x0za17 x0zn17 x0zc17] 37)) w7) := Lib.hid mC
  have HBx0w7 := HBx0 _ HXx0_7.out
  have hsHBx07_0 : w6.heap.size < w7.heap.size := by have := (HXx0_7.out).size; simp at this; omega
  try clear HBx0w6
  obtain ⟨x1za1, x1zn1, x1zc1, x1za2, x1zn2, x1zc2, x1za4, x1zn4, x1zc4, x1za5, x1zn5, x1zc5, x1za7, x1zn7, x1zc7, x1za8, x1zn8, x1zc8, rfl⟩ := sh_Wall (Ty.fresh_at Fx1)
  have HBx1 : ∀ w', More (w7.alloc (.cells #[.bool y.1.1.1, .slice x1za1 x1zn1 x1zc1, .slice x1za2 x1zn2 x1zc2, .bool y.2.1.1.1, .slice x1za4 x1zn4 x1zc4, .slice x1za5 x1zn5 x1zc5, .bool y.2.2.1.1, .slice x1za7 x1zn7 x1zc7, .slice x1za8 x1zn8 x1zc8] 87)) w' → w'.cell? ⟨w7.heap.size, 0, none⟩ = some (.bool y.1.1.1) ∧ w'.cell? ⟨w7.heap.size, 1, none⟩ = some (.slice x1za1 x1zn1 x1zc1) ∧ w'.cell? ⟨w7.heap.size, 2, none⟩ = some (.slice x1za2 x1zn2 x1zc2) ∧ w'.cell? ⟨w7.heap.size, 3, none⟩ = some (.bool y.2.1.1.1) ∧ w'.cell? ⟨w7.heap.size, 4, none⟩ = some (.slice x1za4 x1zn4 x1zc4) ∧ w'.cell? ⟨w7.heap.size, 5, none⟩ = some (.slice x1za5 x1zn5 x1zc5) ∧ w'.cell? ⟨w7.heap.size, 6, none⟩ = some (.bool y.2.2.1.1) ∧ w'.cell? ⟨w7.heap.size, 7, none⟩ = some (.slice x1za7 x1zn7 x1zc7) ∧ w'.cell? ⟨w7.heap.size, 8, none⟩ = some (.slice x1za8 x1zn8 x1zc8) := fun w' h => ⟨box_new rfl h 0, box_new rfl h 1, box_new rfl h 2, box_new rfl h 3, box_new rfl h 4, box_new rfl h 5, box_new rfl h 6, box_new rfl h 7, box_new rfl h 8⟩
  go_wp2_with (first | (refine wpList_load_mid rfl _ _ rfl (W.heap.size) 0 rfl _ _ (HR0 _ mC) Try.underlying28 rfl (by kernel_rfl) ?_) | (refine wpList_load_mid rfl _ _ rfl (w6.heap.size) 0 rfl _ _ (HRx0 _ mC) Try.underlying37 rfl (by kernel_rfl) ?_))
  refine (impl_CellMeetsWall _ x.1 x.2.1 x.2.2.1 x.2.2.2.1 x.2.2.2.2.1 x.2.2.2.2.2 _ y.1 y.2.1 y.2.2 _ (Ty.at_more (Ty.fresh_at Fx0) mC) Hs0.out (Ty.at_more (Ty.fresh_at Fx1) mC) Hs1.out).mono ?_
  rintro e w8 ⟨rfl, b8⟩
  have HXa8 := Lib.hid (More.trans HX (show More _ w8 from mC))
  have HBw8 := HB _ HXa8.out
  have hsHB8_0 : W.heap.size < w8.heap.size := by have := (HXa8.out).size; simp at this; omega
  have hsHB8_1 : W.heap.size + 1 < w8.heap.size := by have := (HXa8.out).size; simp at this; omega
  try clear HBw7
  have HXx0_8 : Hid (More (w6.alloc (.cells #[.bool x.1.1.1, .slice x0za1 x0zn1 x0zc1, .slice x0za2 x0zn2 x0zc2, .bool x.2.1.1.1, .slice x0za4 x0zn4 x0zc4, .slice x0za5 x0zn5 x0zc5, .bool x.2.2.1.1.1, .slice x0za7 x0zn7 x0zc7, .slice x0za8 x0zn8 x0zc8, .bool x.2.2.2.1.1.1, .slice x0za10 x0zn10 x0zc10, .slice x0za11 x0zn11 x0zc11, .bool x.2.2.2.2.1.1.1, .slice x0za13 x0zn13 x0zc13, .slice x0za14 x0zn14 x0zc14, .bool x.2.2.2.2.2.1.1, .slice x0za16 x0zn16 x0zc16, .slice x0za17 x0zn17 x0zc17] 37)) w8) := Lib.hid mC
  have HBx0w8 := HBx0 _ HXx0_8.out
  have hsHBx08_0 : w6.heap.size < w8.heap.size := by have := (HXx0_8.out).size; simp at this; omega
  try clear HBx0w7
  have HXx1_8 : Hid (More (w7.alloc (.cells #[.bool y.1.1.1, .slice x1za1 x1zn1 x1zc1, .slice x1za2 x1zn2 x1zc2, .bool y.2.1.1.1, .slice x1za4 x1zn4 x1zc4, .slice x1za5 x1zn5 x1zc5, .bool y.2.2.1.1, .slice x1za7 x1zn7 x1zc7, .slice x1za8 x1zn8 x1zc8] 87)) w8) := Lib.hid mC
  have HBx1w8 := HBx1 _ HXx1_8.out
  have hsHBx18_0 : w7.heap.size < w8.heap.size := by have := (HXx1_8.out).size; simp at this; omega
  try clear HBx1w7
  go_wp2_with (first | (refine wpList_load_mid rfl _ _ rfl (W.heap.size) 0 rfl _ _ (HR0 _ mC) Try.underlying28 rfl (by kernel_rfl) ?_) | (refine wpList_load_mid rfl _ _ rfl (w6.heap.size) 0 rfl _ _ (HRx0 _ mC) Try.underlying37 rfl (by kernel_rfl) ?_))
  have RHB := fun (w' : World) (h : More w8 w') => HB w' (More.trans HXa8.out h)
  clear HBw8
  have RHBx0 := fun (w' : World) (h : More w8 w') => HBx0 w' (More.trans HXx0_8.out h)
  clear HBx0w8
  have RHBx1 := fun (w' : World) (h : More w8 w') => HBx1 w' (More.trans HXx1_8.out h)
  clear HBx1w8
  refine wp_region_held_drew (S := (fun w' => More w8 w')) (by kernel_rfl) ?_ (fun hHeld => ?_)
  · first | exact More.refl _ | exact mC | exact mC2
  refine wpAnyH_take (i := 0) (oi := ⟨some 35, _, _, _, _, _⟩) (v := .agg ([.bool x.1.1.1, .slice x0za1 x0zn1 x0zc1, .slice x0za2 x0zn2 x0zc2, .bool x.2.1.1.1, .slice x0za4 x0zn4 x0zc4, .slice x0za5 x0zn5 x0zc5, .bool x.2.2.1.1.1, .slice x0za7 x0zn7 x0zc7, .slice x0za8 x0zn8 x0zc8, .bool x.2.2.2.1.1.1, .slice x0za10 x0zn10 x0zc10, .slice x0za11 x0zn11 x0zc11, .bool x.2.2.2.2.1.1.1, .slice x0za13 x0zn13 x0zc13, .slice x0za14 x0zn14 x0zc14, .bool x.2.2.2.2.2.1.1, .slice x0za16 x0zn16 x0zc16, .slice x0za17 x0zn17 x0zc17] : List Value).toArray) rfl (by kernel_rfl) (by kernel_rfl) (by kernel_rfl) (fun _ _ _ h => h) (yieldsIf_load_mid (by rfl) _ _ rfl (w6.heap.size) 0 rfl [.bool x.1.1.1, .slice x0za1 x0zn1 x0zc1, .slice x0za2 x0zn2 x0zc2, .bool x.2.1.1.1, .slice x0za4 x0zn4 x0zc4, .slice x0za5 x0zn5 x0zc5, .bool x.2.2.1.1.1, .slice x0za7 x0zn7 x0zc7, .slice x0za8 x0zn8 x0zc8, .bool x.2.2.2.1.1.1, .slice x0za10 x0zn10 x0zc10, .slice x0za11 x0zn11 x0zc11, .bool x.2.2.2.2.1.1.1, .slice x0za13 x0zn13 x0zc13, .slice x0za14 x0zn14 x0zc14, .bool x.2.2.2.2.2.1.1, .slice x0za16 x0zn16 x0zc16, .slice x0za17 x0zn17 x0zc17] _ (fun _ hS => HRx0 _ (More.trans mC hS)) Try.underlying37 rfl (by kernel_rfl)) (by assumption) ?_
  (try simp only [Act.put, List.setIfInBounds_toArray, List.set_cons_zero, List.set_cons_succ])
  refine wpAnyH_take (i := 1) (oi := ⟨some 36, _, _, _, _, _⟩) (v := .agg ([.bool x.1.1.1, .slice s0a1 s0n1 s0c1, .slice s0a2 s0n2 s0c2, .bool x.2.1.1.1, .slice s0a4 s0n4 s0c4, .slice s0a5 s0n5 s0c5, .bool x.2.2.1.1.1, .slice s0a7 s0n7 s0c7, .slice s0a8 s0n8 s0c8, .bool x.2.2.2.1.1.1, .slice s0a10 s0n10 s0c10, .slice s0a11 s0n11 s0c11, .bool x.2.2.2.2.1.1.1, .slice s0a13 s0n13 s0c13, .slice s0a14 s0n14 s0c14, .bool x.2.2.2.2.2.1.1, .slice s0a16 s0n16 s0c16, .slice s0a17 s0n17 s0c17] : List Value).toArray) rfl (by kernel_rfl) (by kernel_rfl) (by kernel_rfl) (fun _ _ _ h => h) (yieldsIf_load_mid (by rfl) _ _ rfl (W.heap.size) 0 rfl [.bool x.1.1.1, .slice s0a1 s0n1 s0c1, .slice s0a2 s0n2 s0c2, .bool x.2.1.1.1, .slice s0a4 s0n4 s0c4, .slice s0a5 s0n5 s0c5, .bool x.2.2.1.1.1, .slice s0a7 s0n7 s0c7, .slice s0a8 s0n8 s0c8, .bool x.2.2.2.1.1.1, .slice s0a10 s0n10 s0c10, .slice s0a11 s0n11 s0c11, .bool x.2.2.2.2.1.1.1, .slice s0a13 s0n13 s0c13, .slice s0a14 s0n14 s0c14, .bool x.2.2.2.2.2.1.1, .slice s0a16 s0n16 s0c16, .slice s0a17 s0n17 s0c17] _ (fun _ hS => HR0 _ (More.trans mC hS)) Try.underlying28 rfl (by kernel_rfl)) (by assumption) ?_
  (try simp only [Act.put, List.setIfInBounds_toArray, List.set_cons_zero, List.set_cons_succ])
  refine wpAnyH_ready (rs := [2]) (by kernel_rfl) (by simp) ?_
  refine AllReadyH.cons (o := ⟨some 37, _, _, _, _, _⟩) rfl (fun K hK => ?_) AllReadyH.nil
  go_simp
  (go_at_call 11; (with_reducible refine (laws_toCell _ x _ (Ty.at_more HV0.out mC) Hs0.out).mono ?_); rintro e w9 ⟨t0, rfl, b9, Ft0⟩; obtain ⟨t0za1, t0zn1, t0zc1, t0za2, t0zn2, t0zc2, t0za4, t0zn4, t0zc4, t0za5, t0zn5, t0zc5, t0za7, t0zn7, t0zc7, t0za8, t0zn8, t0zc8, t0za10, t0zn10, t0zc10, t0za11, t0zn11, t0zc11, t0za13, t0zn13, t0zc13, t0za14, t0zn14, t0zc14, t0za16, t0zn16, t0zc16, t0za17, t0zn17, t0zc17, rfl⟩ := sh_Cell (Ty.fresh_at Ft0))
  refine hK.out _ _ ?_ (fun hHeld => ?_)
  · first | exact More.refl _ | exact mC | exact mC2
  clear hK K
  (try simp only [Act.put, List.setIfInBounds_toArray, List.set_cons_zero, List.set_cons_succ])
  refine wpAnyH_ready (rs := [3]) (by kernel_rfl) (by simp) ?_
  refine AllReadyH.cons (o := ⟨some 38, _, _, _, _, _⟩) rfl (fun K hK => ?_) AllReadyH.nil
  go_simp
  (go_at_call 15; (with_reducible refine (laws_eqCell _ _ x _ (Ty.at_more (Ty.fresh_at Fx0) mC) (Ty.at_more (Ty.fresh_at Ft0) (Turns.more (by ((repeat (first | (with_reducible apply Turns.drew) | (with_reducible apply Turns.drewN) | (with_reducible apply Turns.alloc))); exact Turns.refl _ _)))) Hs0.out).mono ?_); rintro e w10 ⟨rfl, b10⟩)
  refine hK.out _ _ ?_ (fun hHeld => ?_)
  · first | exact More.refl _ | exact mC | exact mC2
  clear hK K
  (try simp only [Act.put, List.setIfInBounds_toArray, List.set_cons_zero, List.set_cons_succ])
  refine wpAnyH_take (i := 4) (oi := ⟨some 39, _, _, _, _, _⟩) (v := ?_) rfl (by kernel_rfl) (by kernel_rfl) (by kernel_rfl) (fun _ _ _ h => h) (Or.inl ⟨by rfl, ?_⟩) (by assumption) ?_
  rotate_left
  · (intro w hSw; (try dsimp only at hSw); go_simp; (try with_reducible rfl))
  (try simp only [Act.put, List.setIfInBounds_toArray, List.set_cons_zero, List.set_cons_succ])
  refine wpAnyH_done (by kernel_rfl) ?_ _
  clear RHB
  clear RHBx0
  clear RHBx1
  have HXa10 := Lib.hid (More.trans HX (show More _ w10 from mC))
  have HBw10 := HB _ HXa10.out
  have hsHB10_0 : W.heap.size < w10.heap.size := by have := (HXa10.out).size; simp at this; omega
  have hsHB10_1 : W.heap.size + 1 < w10.heap.size := by have := (HXa10.out).size; simp at this; omega
  try clear HBw9
  have HXx0_10 : Hid (More (w6.alloc (.cells #[.bool x.1.1.1, .slice x0za1 x0zn1 x0zc1, .slice x0za2 x0zn2 x0zc2, .bool x.2.1.1.1, .slice x0za4 x0zn4 x0zc4, .slice x0za5 x0zn5 x0zc5, .bool x.2.2.1.1.1, .slice x0za7 x0zn7 x0zc7, .slice x0za8 x0zn8 x0zc8, .bool x.2.2.2.1.1.1, .slice x0za10 x0zn10 x0zc10, .slice x0za11 x0zn11 x0zc11, .bool x.2.2.2.2.1.1.1, .slice x0za13 x0zn13 x0zc13, .slice x0za14 x0zn14 x0zc14, .bool x.2.2.2.2.2.1.1, .slice x0za16 x0zn16 x0zc16, .slice x0za17 x0zn17 x0zc17] 37)) w10) := Lib.hid mC
  have HBx0w10 := HBx0 _ HXx0_10.out
  have hsHBx010_0 : w6.heap.size < w10.heap.size := by have := (HXx0_10.out).size; simp at this; omega
  try clear HBx0w9
  have HXx1_10 : Hid (More (w7.alloc (.cells #[.bool y.1.1.1, .slice x1za1 x1zn1 x1zc1, .slice x1za2 x1zn2 x1zc2, .bool y.2.1.1.1, .slice x1za4 x1zn4 x1zc4, .slice x1za5 x1zn5 x1zc5, .bool y.2.2.1.1, .slice x1za7 x1zn7 x1zc7, .slice x1za8 x1zn8 x1zc8] 87)) w10) := Lib.hid mC
  have HBx1w10 := HBx1 _ HXx1_10.out
  have hsHBx110_0 : w7.heap.size < w10.heap.size := by have := (HXx1_10.out).size; simp at this; omega
  try clear HBx1w9
  go_wp2_with (first | (refine wpList_load_mid rfl _ _ rfl (W.heap.size) 0 rfl _ _ (HR0 _ mC) Try.underlying28 rfl (by kernel_rfl) ?_) | (refine wpList_load_mid rfl _ _ rfl (w6.heap.size) 0 rfl _ _ (HRx0 _ mC) Try.underlying37 rfl (by kernel_rfl) ?_))
  have RHB := fun (w' : World) (h : More w10 w') => HB w' (More.trans HXa10.out h)
  clear HBw10
  have RHBx0 := fun (w' : World) (h : More w10 w') => HBx0 w' (More.trans HXx0_10.out h)
  clear HBx0w10
  have RHBx1 := fun (w' : World) (h : More w10 w') => HBx1 w' (More.trans HXx1_10.out h)
  clear HBx1w10
  refine wp_region_held_drew (S := (fun w' => More w10 w')) (by kernel_rfl) ?_ (fun hHeld => ?_)
  · first | exact More.refl _ | exact mC | exact mC2
  refine wpAnyH_take (i := 0) (oi := ⟨some 40, _, _, _, _, _⟩) (v := ?_) rfl (by kernel_rfl) (by kernel_rfl) (by kernel_rfl) (fun _ _ _ h => h) (Or.inl ⟨by rfl, ?_⟩) (by assumption) ?_
  rotate_left
  · (intro w hSw; (try dsimp only at hSw); go_simp; (try with_reducible rfl))
  (try simp only [Act.put, List.setIfInBounds_toArray, List.set_cons_zero, List.set_cons_succ])
  refine wpAnyH_take (i := 1) (oi := ⟨some 41, _, _, _, _, _⟩) (v := ?_) rfl (by kernel_rfl) (by kernel_rfl) (by kernel_rfl) (fun _ _ _ h => h) (Or.inl ⟨by rfl, ?_⟩) (by assumption) ?_
  rotate_left
  · (intro w hSw; (try dsimp only at hSw); go_simp; (try with_reducible rfl))
  (try simp only [Act.put, List.setIfInBounds_toArray, List.set_cons_zero, List.set_cons_succ])
  refine wpAnyH_ready (rs := [2]) (by kernel_rfl) (by simp) ?_
  refine AllReadyH.cons (o := ⟨some 42, _, _, _, _, _⟩) rfl (fun K hK => ?_) AllReadyH.nil
  go_simp
  (go_at_call 42; (with_reducible refine (laws_toWall _ y _ (Ty.at_more HV1.out mC) Hs1.out).mono ?_); rintro e w11 ⟨t1, rfl, b11, Ft1⟩; obtain ⟨t1za1, t1zn1, t1zc1, t1za2, t1zn2, t1zc2, t1za4, t1zn4, t1zc4, t1za5, t1zn5, t1zc5, t1za7, t1zn7, t1zc7, t1za8, t1zn8, t1zc8, rfl⟩ := sh_Wall (Ty.fresh_at Ft1))
  refine hK.out _ _ ?_ (fun hHeld => ?_)
  · first | exact More.refl _ | exact mC | exact mC2
  clear hK K
  (try simp only [Act.put, List.setIfInBounds_toArray, List.set_cons_zero, List.set_cons_succ])
  refine wpAnyH_ready (rs := [3]) (by kernel_rfl) (by simp) ?_
  refine AllReadyH.cons (o := ⟨some 43, _, _, _, _, _⟩) rfl (fun K hK => ?_) AllReadyH.nil
  go_simp
  (go_at_call 44; (with_reducible refine (laws_eqWall _ _ y _ (Ty.at_more (Ty.fresh_at Fx1) mC) (Ty.at_more (Ty.fresh_at Ft1) (Turns.more (by ((repeat (first | (with_reducible apply Turns.drew) | (with_reducible apply Turns.drewN) | (with_reducible apply Turns.alloc))); exact Turns.refl _ _)))) Hs1.out).mono ?_); rintro e w12 ⟨rfl, b12⟩)
  refine hK.out _ _ ?_ (fun hHeld => ?_)
  · first | exact More.refl _ | exact mC | exact mC2
  clear hK K
  (try simp only [Act.put, List.setIfInBounds_toArray, List.set_cons_zero, List.set_cons_succ])
  refine wpAnyH_take (i := 4) (oi := ⟨some 44, _, _, _, _, _⟩) (v := ?_) rfl (by kernel_rfl) (by kernel_rfl) (by kernel_rfl) (fun _ _ _ h => h) (Or.inl ⟨by rfl, ?_⟩) (by assumption) ?_
  rotate_left
  · (intro w hSw; (try dsimp only at hSw); go_simp; (try with_reducible rfl))
  (try simp only [Act.put, List.setIfInBounds_toArray, List.set_cons_zero, List.set_cons_succ])
  refine wpAnyH_done (by kernel_rfl) ?_ _
  clear RHB
  clear RHBx0
  clear RHBx1
  have HXa12 := Lib.hid (More.trans HX (show More _ w12 from mC))
  have HBw12 := HB _ HXa12.out
  have hsHB12_0 : W.heap.size < w12.heap.size := by have := (HXa12.out).size; simp at this; omega
  have hsHB12_1 : W.heap.size + 1 < w12.heap.size := by have := (HXa12.out).size; simp at this; omega
  try clear HBw11
  have HXx0_12 : Hid (More (w6.alloc (.cells #[.bool x.1.1.1, .slice x0za1 x0zn1 x0zc1, .slice x0za2 x0zn2 x0zc2, .bool x.2.1.1.1, .slice x0za4 x0zn4 x0zc4, .slice x0za5 x0zn5 x0zc5, .bool x.2.2.1.1.1, .slice x0za7 x0zn7 x0zc7, .slice x0za8 x0zn8 x0zc8, .bool x.2.2.2.1.1.1, .slice x0za10 x0zn10 x0zc10, .slice x0za11 x0zn11 x0zc11, .bool x.2.2.2.2.1.1.1, .slice x0za13 x0zn13 x0zc13, .slice x0za14 x0zn14 x0zc14, .bool x.2.2.2.2.2.1.1, .slice x0za16 x0zn16 x0zc16, .slice x0za17 x0zn17 x0zc17] 37)) w12) := Lib.hid mC
  have HBx0w12 := HBx0 _ HXx0_12.out
  have hsHBx012_0 : w6.heap.size < w12.heap.size := by have := (HXx0_12.out).size; simp at this; omega
  try clear HBx0w11
  have HXx1_12 : Hid (More (w7.alloc (.cells #[.bool y.1.1.1, .slice x1za1 x1zn1 x1zc1, .slice x1za2 x1zn2 x1zc2, .bool y.2.1.1.1, .slice x1za4 x1zn4 x1zc4, .slice x1za5 x1zn5 x1zc5, .bool y.2.2.1.1, .slice x1za7 x1zn7 x1zc7, .slice x1za8 x1zn8 x1zc8] 87)) w12) := Lib.hid mC
  have HBx1w12 := HBx1 _ HXx1_12.out
  have hsHBx112_0 : w7.heap.size < w12.heap.size := by have := (HXx1_12.out).size; simp at this; omega
  try clear HBx1w11
  go_wp2_with (first | (refine wpList_load_mid rfl _ _ rfl (W.heap.size) 0 rfl _ _ (HR0 _ mC) Try.underlying28 rfl (by kernel_rfl) ?_) | (refine wpList_load_mid rfl _ _ rfl (w6.heap.size) 0 rfl _ _ (HRx0 _ mC) Try.underlying37 rfl (by kernel_rfl) ?_))
  go_ret
  exact ⟨rfl, mC⟩
end Go.Proofs.Yteihkhniibncnaa
