/- FnExactSegmentsMeet returns true, for every input. -/
import Derived.Test.YtkhcblheekfdmaaSeg
import Derived.Test.YtkhcblheekfdmaaSzPoint
import Derived.Test.YtkhcblheekfdmaaToPoint
import Derived.Test.YtkhcblheekfdmaaEqPoint
import Derived.Deep.RegionHeld3
namespace Go.Proofs.Ytkhcblheekfdmaa
open Go.RowKit
set_option maxHeartbeats 3200000 in
theorem law_SegmentsMeet {W : World} (ca0 : Array Value) (a : QP) (hv0 : tPoint.at W ca0.toList a) (ca1 : Array Value) (b : QP) (hv1 : tPoint.at W ca1.toList b) (ca2 : Array Value) (c : QP) (hv2 : tPoint.at W ca2.toList c) (ca3 : Array Value) (d : QP) (hv3 : tPoint.at W ca3.toList d) :
    Calls Try.prog 16 #[.agg ca0, .agg ca1, .agg ca2, .agg ca3] W fun e w' => e = .returned (.bool true) ∧ More W w' := by
  obtain ⟨s0a1, s0n1, s0c1, s0a2, s0n2, s0c2, s0a4, s0n4, s0c4, s0a5, s0n5, s0c5, es0⟩ := sh_Point hv0
  rw [es0] at hv0
  obtain rfl := arr_of es0
  clear es0
  have HV0 := Lib.hid hv0; clear hv0
  obtain ⟨s1a1, s1n1, s1c1, s1a2, s1n2, s1c2, s1a4, s1n4, s1c4, s1a5, s1n5, s1c5, es1⟩ := sh_Point hv1
  rw [es1] at hv1
  obtain rfl := arr_of es1
  clear es1
  have HV1 := Lib.hid hv1; clear hv1
  obtain ⟨s2a1, s2n1, s2c1, s2a2, s2n2, s2c2, s2a4, s2n4, s2c4, s2a5, s2n5, s2c5, es2⟩ := sh_Point hv2
  rw [es2] at hv2
  obtain rfl := arr_of es2
  clear es2
  have HV2 := Lib.hid hv2; clear hv2
  obtain ⟨s3a1, s3n1, s3c1, s3a2, s3n2, s3c2, s3a4, s3n4, s3c4, s3a5, s3n5, s3c5, es3⟩ := sh_Point hv3
  rw [es3] at hv3
  obtain rfl := arr_of es3
  clear es3
  have HV3 := Lib.hid hv3; clear hv3
  by_cases hn0 : ((wPoint a : Nat) : Int) ≤ 1048576
  rotate_left
  · have Hbad := Lib.hid hn0; clear hn0
    have HX : More ((((W.alloc (.cells #[.bool a.1.1.1, .slice s0a1 s0n1 s0c1, .slice s0a2 s0n2 s0c2, .bool a.2.1.1, .slice s0a4 s0n4 s0c4, .slice s0a5 s0n5 s0c5] 82)).alloc (.cells #[.bool b.1.1.1, .slice s1a1 s1n1 s1c1, .slice s1a2 s1n2 s1c2, .bool b.2.1.1, .slice s1a4 s1n4 s1c4, .slice s1a5 s1n5 s1c5] 82)).alloc (.cells #[.bool c.1.1.1, .slice s2a1 s2n1 s2c1, .slice s2a2 s2n2 s2c2, .bool c.2.1.1, .slice s2a4 s2n4 s2c4, .slice s2a5 s2n5 s2c5] 82)).alloc (.cells #[.bool d.1.1.1, .slice s3a1 s3n1 s3c1, .slice s3a2 s3n2 s3c2, .bool d.2.1.1, .slice s3a4 s3n4 s3c4, .slice s3a5 s3n5 s3c5] 82)) ((((W.alloc (.cells #[.bool a.1.1.1, .slice s0a1 s0n1 s0c1, .slice s0a2 s0n2 s0c2, .bool a.2.1.1, .slice s0a4 s0n4 s0c4, .slice s0a5 s0n5 s0c5] 82)).alloc (.cells #[.bool b.1.1.1, .slice s1a1 s1n1 s1c1, .slice s1a2 s1n2 s1c2, .bool b.2.1.1, .slice s1a4 s1n4 s1c4, .slice s1a5 s1n5 s1c5] 82)).alloc (.cells #[.bool c.1.1.1, .slice s2a1 s2n1 s2c1, .slice s2a2 s2n2 s2c2, .bool c.2.1.1, .slice s2a4 s2n4 s2c4, .slice s2a5 s2n5 s2c5] 82)).alloc (.cells #[.bool d.1.1.1, .slice s3a1 s3n1 s3c1, .slice s3a2 s3n2 s3c2, .bool d.2.1.1, .slice s3a4 s3n4 s3c4, .slice s3a5 s3n5 s3c5] 82)) := More.refl _
    have HB : ∀ w', More ((((W.alloc (.cells #[.bool a.1.1.1, .slice s0a1 s0n1 s0c1, .slice s0a2 s0n2 s0c2, .bool a.2.1.1, .slice s0a4 s0n4 s0c4, .slice s0a5 s0n5 s0c5] 82)).alloc (.cells #[.bool b.1.1.1, .slice s1a1 s1n1 s1c1, .slice s1a2 s1n2 s1c2, .bool b.2.1.1, .slice s1a4 s1n4 s1c4, .slice s1a5 s1n5 s1c5] 82)).alloc (.cells #[.bool c.1.1.1, .slice s2a1 s2n1 s2c1, .slice s2a2 s2n2 s2c2, .bool c.2.1.1, .slice s2a4 s2n4 s2c4, .slice s2a5 s2n5 s2c5] 82)).alloc (.cells #[.bool d.1.1.1, .slice s3a1 s3n1 s3c1, .slice s3a2 s3n2 s3c2, .bool d.2.1.1, .slice s3a4 s3n4 s3c4, .slice s3a5 s3n5 s3c5] 82)) w' → w'.cell? ⟨W.heap.size, 0, none⟩ = some (.bool a.1.1.1) ∧ w'.cell? ⟨W.heap.size, 1, none⟩ = some (.slice s0a1 s0n1 s0c1) ∧ w'.cell? ⟨W.heap.size, 2, none⟩ = some (.slice s0a2 s0n2 s0c2) ∧ w'.cell? ⟨W.heap.size, 3, none⟩ = some (.bool a.2.1.1) ∧ w'.cell? ⟨W.heap.size, 4, none⟩ = some (.slice s0a4 s0n4 s0c4) ∧ w'.cell? ⟨W.heap.size, 5, none⟩ = some (.slice s0a5 s0n5 s0c5) ∧ (∀ j, w'.frozen? ⟨W.heap.size, j, none⟩ = false) ∧ w'.cell? ⟨W.heap.size + 1, 0, none⟩ = some (.bool b.1.1.1) ∧ w'.cell? ⟨W.heap.size + 1, 1, none⟩ = some (.slice s1a1 s1n1 s1c1) ∧ w'.cell? ⟨W.heap.size + 1, 2, none⟩ = some (.slice s1a2 s1n2 s1c2) ∧ w'.cell? ⟨W.heap.size + 1, 3, none⟩ = some (.bool b.2.1.1) ∧ w'.cell? ⟨W.heap.size + 1, 4, none⟩ = some (.slice s1a4 s1n4 s1c4) ∧ w'.cell? ⟨W.heap.size + 1, 5, none⟩ = some (.slice s1a5 s1n5 s1c5) ∧ (∀ j, w'.frozen? ⟨W.heap.size + 1, j, none⟩ = false) ∧ w'.cell? ⟨W.heap.size + 1 + 1, 0, none⟩ = some (.bool c.1.1.1) ∧ w'.cell? ⟨W.heap.size + 1 + 1, 1, none⟩ = some (.slice s2a1 s2n1 s2c1) ∧ w'.cell? ⟨W.heap.size + 1 + 1, 2, none⟩ = some (.slice s2a2 s2n2 s2c2) ∧ w'.cell? ⟨W.heap.size + 1 + 1, 3, none⟩ = some (.bool c.2.1.1) ∧ w'.cell? ⟨W.heap.size + 1 + 1, 4, none⟩ = some (.slice s2a4 s2n4 s2c4) ∧ w'.cell? ⟨W.heap.size + 1 + 1, 5, none⟩ = some (.slice s2a5 s2n5 s2c5) ∧ (∀ j, w'.frozen? ⟨W.heap.size + 1 + 1, j, none⟩ = false) ∧ w'.cell? ⟨W.heap.size + 1 + 1 + 1, 0, none⟩ = some (.bool d.1.1.1) ∧ w'.cell? ⟨W.heap.size + 1 + 1 + 1, 1, none⟩ = some (.slice s3a1 s3n1 s3c1) ∧ w'.cell? ⟨W.heap.size + 1 + 1 + 1, 2, none⟩ = some (.slice s3a2 s3n2 s3c2) ∧ w'.cell? ⟨W.heap.size + 1 + 1 + 1, 3, none⟩ = some (.bool d.2.1.1) ∧ w'.cell? ⟨W.heap.size + 1 + 1 + 1, 4, none⟩ = some (.slice s3a4 s3n4 s3c4) ∧ w'.cell? ⟨W.heap.size + 1 + 1 + 1, 5, none⟩ = some (.slice s3a5 s3n5 s3c5) ∧ (∀ j, w'.frozen? ⟨W.heap.size + 1 + 1 + 1, j, none⟩ = false) := fun w' h => ⟨box_new (by simp) (More.un (More.un (More.un h))) 0, box_new (by simp) (More.un (More.un (More.un h))) 1, box_new (by simp) (More.un (More.un (More.un h))) 2, box_new (by simp) (More.un (More.un (More.un h))) 3, box_new (by simp) (More.un (More.un (More.un h))) 4, box_new (by simp) (More.un (More.un (More.un h))) 5, fun j => box_free (by simp) (More.un (More.un (More.un h))) j, box_new (by simp) (More.un (More.un h)) 0, box_new (by simp) (More.un (More.un h)) 1, box_new (by simp) (More.un (More.un h)) 2, box_new (by simp) (More.un (More.un h)) 3, box_new (by simp) (More.un (More.un h)) 4, box_new (by simp) (More.un (More.un h)) 5, fun j => box_free (by simp) (More.un (More.un h)) j, box_new (by simp) (More.un h) 0, box_new (by simp) (More.un h) 1, box_new (by simp) (More.un h) 2, box_new (by simp) (More.un h) 3, box_new (by simp) (More.un h) 4, box_new (by simp) (More.un h) 5, fun j => box_free (by simp) (More.un h) j, box_new (by simp) h 0, box_new (by simp) h 1, box_new (by simp) h 2, box_new (by simp) h 3, box_new (by simp) h 4, box_new (by simp) h 5, fun j => box_free (by simp) h j⟩
    go_enter Try.func16, Try.ntmps16
    go_wp2_with fail
    refine (laws_szPoint _ a _ _ (Ty.at_more HV0.out mC) (by decide) (by decide)).mono ?_
    rintro e w1 ⟨rfl, b1⟩
    have HXa1 : Hid (More (((((W.alloc (.cells #[.bool a.1.1.1, .slice s0a1 s0n1 s0c1, .slice s0a2 s0n2 s0c2, .bool a.2.1.1, .slice s0a4 s0n4 s0c4, .slice s0a5 s0n5 s0c5] 82)).alloc (.cells #[.bool b.1.1.1, .slice s1a1 s1n1 s1c1, .slice s1a2 s1n2 s1c2, .bool b.2.1.1, .slice s1a4 s1n4 s1c4, .slice s1a5 s1n5 s1c5] 82)).alloc (.cells #[.bool c.1.1.1, .slice s2a1 s2n1 s2c1, .slice s2a2 s2n2 s2c2, .bool c.2.1.1, .slice s2a4 s2n4 s2c4, .slice s2a5 s2n5 s2c5] 82)).alloc (.cells #[.bool d.1.1.1, .slice s3a1 s3n1 s3c1, .slice s3a2 s3n2 s3c2, .bool d.2.1.1, .slice s3a4 s3n4 s3c4, .slice s3a5 s3n5 s3c5] 82))) w1) := Lib.hid mC
    have HBw1 := HB _ HXa1.out
    have hsHB1_0 : W.heap.size < w1.heap.size := by have := (HXa1.out).size; simp at this; omega
    have hsHB1_1 : W.heap.size + 1 < w1.heap.size := by have := (HXa1.out).size; simp at this; omega
    have hsHB1_2 : W.heap.size + 2 < w1.heap.size := by have := (HXa1.out).size; simp at this; omega
    have hsHB1_3 : W.heap.size + 3 < w1.heap.size := by have := (HXa1.out).size; simp at this; omega
    rw [szI_neg (by have := Hbad.out; omega)]
    go_wp2_with fail
    go_ret
    exact ⟨rfl, mC⟩
  by_cases hn1 : ((wPoint b : Nat) : Int) ≤ 1048576 - (wPoint a : Nat)
  rotate_left
  · have Hbad := Lib.hid hn1; clear hn1
    have Hn0 := Lib.hid hn0; clear hn0
    have HX : More ((((W.alloc (.cells #[.bool a.1.1.1, .slice s0a1 s0n1 s0c1, .slice s0a2 s0n2 s0c2, .bool a.2.1.1, .slice s0a4 s0n4 s0c4, .slice s0a5 s0n5 s0c5] 82)).alloc (.cells #[.bool b.1.1.1, .slice s1a1 s1n1 s1c1, .slice s1a2 s1n2 s1c2, .bool b.2.1.1, .slice s1a4 s1n4 s1c4, .slice s1a5 s1n5 s1c5] 82)).alloc (.cells #[.bool c.1.1.1, .slice s2a1 s2n1 s2c1, .slice s2a2 s2n2 s2c2, .bool c.2.1.1, .slice s2a4 s2n4 s2c4, .slice s2a5 s2n5 s2c5] 82)).alloc (.cells #[.bool d.1.1.1, .slice s3a1 s3n1 s3c1, .slice s3a2 s3n2 s3c2, .bool d.2.1.1, .slice s3a4 s3n4 s3c4, .slice s3a5 s3n5 s3c5] 82)) ((((W.alloc (.cells #[.bool a.1.1.1, .slice s0a1 s0n1 s0c1, .slice s0a2 s0n2 s0c2, .bool a.2.1.1, .slice s0a4 s0n4 s0c4, .slice s0a5 s0n5 s0c5] 82)).alloc (.cells #[.bool b.1.1.1, .slice s1a1 s1n1 s1c1, .slice s1a2 s1n2 s1c2, .bool b.2.1.1, .slice s1a4 s1n4 s1c4, .slice s1a5 s1n5 s1c5] 82)).alloc (.cells #[.bool c.1.1.1, .slice s2a1 s2n1 s2c1, .slice s2a2 s2n2 s2c2, .bool c.2.1.1, .slice s2a4 s2n4 s2c4, .slice s2a5 s2n5 s2c5] 82)).alloc (.cells #[.bool d.1.1.1, .slice s3a1 s3n1 s3c1, .slice s3a2 s3n2 s3c2, .bool d.2.1.1, .slice s3a4 s3n4 s3c4, .slice s3a5 s3n5 s3c5] 82)) := More.refl _
    have HB : ∀ w', More ((((W.alloc (.cells #[.bool a.1.1.1, .slice s0a1 s0n1 s0c1, .slice s0a2 s0n2 s0c2, .bool a.2.1.1, .slice s0a4 s0n4 s0c4, .slice s0a5 s0n5 s0c5] 82)).alloc (.cells #[.bool b.1.1.1, .slice s1a1 s1n1 s1c1, .slice s1a2 s1n2 s1c2, .bool b.2.1.1, .slice s1a4 s1n4 s1c4, .slice s1a5 s1n5 s1c5] 82)).alloc (.cells #[.bool c.1.1.1, .slice s2a1 s2n1 s2c1, .slice s2a2 s2n2 s2c2, .bool c.2.1.1, .slice s2a4 s2n4 s2c4, .slice s2a5 s2n5 s2c5] 82)).alloc (.cells #[.bool d.1.1.1, .slice s3a1 s3n1 s3c1, .slice s3a2 s3n2 s3c2, .bool d.2.1.1, .slice s3a4 s3n4 s3c4, .slice s3a5 s3n5 s3c5] 82)) w' → w'.cell? ⟨W.heap.size, 0, none⟩ = some (.bool a.1.1.1) ∧ w'.cell? ⟨W.heap.size, 1, none⟩ = some (.slice s0a1 s0n1 s0c1) ∧ w'.cell? ⟨W.heap.size, 2, none⟩ = some (.slice s0a2 s0n2 s0c2) ∧ w'.cell? ⟨W.heap.size, 3, none⟩ = some (.bool a.2.1.1) ∧ w'.cell? ⟨W.heap.size, 4, none⟩ = some (.slice s0a4 s0n4 s0c4) ∧ w'.cell? ⟨W.heap.size, 5, none⟩ = some (.slice s0a5 s0n5 s0c5) ∧ (∀ j, w'.frozen? ⟨W.heap.size, j, none⟩ = false) ∧ w'.cell? ⟨W.heap.size + 1, 0, none⟩ = some (.bool b.1.1.1) ∧ w'.cell? ⟨W.heap.size + 1, 1, none⟩ = some (.slice s1a1 s1n1 s1c1) ∧ w'.cell? ⟨W.heap.size + 1, 2, none⟩ = some (.slice s1a2 s1n2 s1c2) ∧ w'.cell? ⟨W.heap.size + 1, 3, none⟩ = some (.bool b.2.1.1) ∧ w'.cell? ⟨W.heap.size + 1, 4, none⟩ = some (.slice s1a4 s1n4 s1c4) ∧ w'.cell? ⟨W.heap.size + 1, 5, none⟩ = some (.slice s1a5 s1n5 s1c5) ∧ (∀ j, w'.frozen? ⟨W.heap.size + 1, j, none⟩ = false) ∧ w'.cell? ⟨W.heap.size + 1 + 1, 0, none⟩ = some (.bool c.1.1.1) ∧ w'.cell? ⟨W.heap.size + 1 + 1, 1, none⟩ = some (.slice s2a1 s2n1 s2c1) ∧ w'.cell? ⟨W.heap.size + 1 + 1, 2, none⟩ = some (.slice s2a2 s2n2 s2c2) ∧ w'.cell? ⟨W.heap.size + 1 + 1, 3, none⟩ = some (.bool c.2.1.1) ∧ w'.cell? ⟨W.heap.size + 1 + 1, 4, none⟩ = some (.slice s2a4 s2n4 s2c4) ∧ w'.cell? ⟨W.heap.size + 1 + 1, 5, none⟩ = some (.slice s2a5 s2n5 s2c5) ∧ (∀ j, w'.frozen? ⟨W.heap.size + 1 + 1, j, none⟩ = false) ∧ w'.cell? ⟨W.heap.size + 1 + 1 + 1, 0, none⟩ = some (.bool d.1.1.1) ∧ w'.cell? ⟨W.heap.size + 1 + 1 + 1, 1, none⟩ = some (.slice s3a1 s3n1 s3c1) ∧ w'.cell? ⟨W.heap.size + 1 + 1 + 1, 2, none⟩ = some (.slice s3a2 s3n2 s3c2) ∧ w'.cell? ⟨W.heap.size + 1 + 1 + 1, 3, none⟩ = some (.bool d.2.1.1) ∧ w'.cell? ⟨W.heap.size + 1 + 1 + 1, 4, none⟩ = some (.slice s3a4 s3n4 s3c4) ∧ w'.cell? ⟨W.heap.size + 1 + 1 + 1, 5, none⟩ = some (.slice s3a5 s3n5 s3c5) ∧ (∀ j, w'.frozen? ⟨W.heap.size + 1 + 1 + 1, j, none⟩ = false) := fun w' h => ⟨box_new (by simp) (More.un (More.un (More.un h))) 0, box_new (by simp) (More.un (More.un (More.un h))) 1, box_new (by simp) (More.un (More.un (More.un h))) 2, box_new (by simp) (More.un (More.un (More.un h))) 3, box_new (by simp) (More.un (More.un (More.un h))) 4, box_new (by simp) (More.un (More.un (More.un h))) 5, fun j => box_free (by simp) (More.un (More.un (More.un h))) j, box_new (by simp) (More.un (More.un h)) 0, box_new (by simp) (More.un (More.un h)) 1, box_new (by simp) (More.un (More.un h)) 2, box_new (by simp) (More.un (More.un h)) 3, box_new (by simp) (More.un (More.un h)) 4, box_new (by simp) (More.un (More.un h)) 5, fun j => box_free (by simp) (More.un (More.un h)) j, box_new (by simp) (More.un h) 0, box_new (by simp) (More.un h) 1, box_new (by simp) (More.un h) 2, box_new (by simp) (More.un h) 3, box_new (by simp) (More.un h) 4, box_new (by simp) (More.un h) 5, fun j => box_free (by simp) (More.un h) j, box_new (by simp) h 0, box_new (by simp) h 1, box_new (by simp) h 2, box_new (by simp) h 3, box_new (by simp) h 4, box_new (by simp) h 5, fun j => box_free (by simp) h j⟩
    go_enter Try.func16, Try.ntmps16
    go_wp2_with fail
    refine (laws_szPoint _ a _ _ (Ty.at_more HV0.out mC) (by decide) (by decide)).mono ?_
    rintro e w1 ⟨rfl, b1⟩
    have HXa1 : Hid (More (((((W.alloc (.cells #[.bool a.1.1.1, .slice s0a1 s0n1 s0c1, .slice s0a2 s0n2 s0c2, .bool a.2.1.1, .slice s0a4 s0n4 s0c4, .slice s0a5 s0n5 s0c5] 82)).alloc (.cells #[.bool b.1.1.1, .slice s1a1 s1n1 s1c1, .slice s1a2 s1n2 s1c2, .bool b.2.1.1, .slice s1a4 s1n4 s1c4, .slice s1a5 s1n5 s1c5] 82)).alloc (.cells #[.bool c.1.1.1, .slice s2a1 s2n1 s2c1, .slice s2a2 s2n2 s2c2, .bool c.2.1.1, .slice s2a4 s2n4 s2c4, .slice s2a5 s2n5 s2c5] 82)).alloc (.cells #[.bool d.1.1.1, .slice s3a1 s3n1 s3c1, .slice s3a2 s3n2 s3c2, .bool d.2.1.1, .slice s3a4 s3n4 s3c4, .slice s3a5 s3n5 s3c5] 82))) w1) := Lib.hid mC
    have HBw1 := HB _ HXa1.out
    have hsHB1_0 : W.heap.size < w1.heap.size := by have := (HXa1.out).size; simp at this; omega
    have hsHB1_1 : W.heap.size + 1 < w1.heap.size := by have := (HXa1.out).size; simp at this; omega
    have hsHB1_2 : W.heap.size + 2 < w1.heap.size := by have := (HXa1.out).size; simp at this; omega
    have hsHB1_3 : W.heap.size + 3 < w1.heap.size := by have := (HXa1.out).size; simp at this; omega
    rw [szI_pos (by have := Hn0.out; omega)]
    have z0 : 0 ≤ (1048576 : Int) - (wPoint a : Nat) := by have := Hn0.out; omega
    go_wp2_with fail
    refine (laws_szPoint _ b _ _ (Ty.at_more HV1.out mC) (by have := Hn0.out; omega) (by omega)).mono ?_
    rintro e w2 ⟨rfl, b2⟩
    have HXa2 : Hid (More (((((W.alloc (.cells #[.bool a.1.1.1, .slice s0a1 s0n1 s0c1, .slice s0a2 s0n2 s0c2, .bool a.2.1.1, .slice s0a4 s0n4 s0c4, .slice s0a5 s0n5 s0c5] 82)).alloc (.cells #[.bool b.1.1.1, .slice s1a1 s1n1 s1c1, .slice s1a2 s1n2 s1c2, .bool b.2.1.1, .slice s1a4 s1n4 s1c4, .slice s1a5 s1n5 s1c5] 82)).alloc (.cells #[.bool c.1.1.1, .slice s2a1 s2n1 s2c1, .slice s2a2 s2n2 s2c2, .bool c.2.1.1, .slice s2a4 s2n4 s2c4, .slice s2a5 s2n5 s2c5] 82)).alloc (.cells #[.bool d.1.1.1, .slice s3a1 s3n1 s3c1, .slice s3a2 s3n2 s3c2, .bool d.2.1.1, .slice s3a4 s3n4 s3c4, .slice s3a5 s3n5 s3c5] 82))) w2) := Lib.hid mC
    have HBw2 := HB _ HXa2.out
    have hsHB2_0 : W.heap.size < w2.heap.size := by have := (HXa2.out).size; simp at this; omega
    have hsHB2_1 : W.heap.size + 1 < w2.heap.size := by have := (HXa2.out).size; simp at this; omega
    have hsHB2_2 : W.heap.size + 2 < w2.heap.size := by have := (HXa2.out).size; simp at this; omega
    have hsHB2_3 : W.heap.size + 3 < w2.heap.size := by have := (HXa2.out).size; simp at this; omega
    try clear HBw1
    rw [szI_neg (by have := Hbad.out; omega)]
    go_wp2_with fail
    go_ret
    exact ⟨rfl, mC⟩
  by_cases hn2 : ((wPoint c : Nat) : Int) ≤ 1048576 - (wPoint a : Nat) - (wPoint b : Nat)
  rotate_left
  · have Hbad := Lib.hid hn2; clear hn2
    have Hn0 := Lib.hid hn0; clear hn0
    have Hn1 := Lib.hid hn1; clear hn1
    have HX : More ((((W.alloc (.cells #[.bool a.1.1.1, .slice s0a1 s0n1 s0c1, .slice s0a2 s0n2 s0c2, .bool a.2.1.1, .slice s0a4 s0n4 s0c4, .slice s0a5 s0n5 s0c5] 82)).alloc (.cells #[.bool b.1.1.1, .slice s1a1 s1n1 s1c1, .slice s1a2 s1n2 s1c2, .bool b.2.1.1, .slice s1a4 s1n4 s1c4, .slice s1a5 s1n5 s1c5] 82)).alloc (.cells #[.bool c.1.1.1, .slice s2a1 s2n1 s2c1, .slice s2a2 s2n2 s2c2, .bool c.2.1.1, .slice s2a4 s2n4 s2c4, .slice s2a5 s2n5 s2c5] 82)).alloc (.cells #[.bool d.1.1.1, .slice s3a1 s3n1 s3c1, .slice s3a2 s3n2 s3c2, .bool d.2.1.1, .slice s3a4 s3n4 s3c4, .slice s3a5 s3n5 s3c5] 82)) ((((W.alloc (.cells #[.bool a.1.1.1, .slice s0a1 s0n1 s0c1, .slice s0a2 s0n2 s0c2, .bool a.2.1.1, .slice s0a4 s0n4 s0c4, .slice s0a5 s0n5 s0c5] 82)).alloc (.cells #[.bool b.1.1.1, .slice s1a1 s1n1 s1c1, .slice s1a2 s1n2 s1c2, .bool b.2.1.1, .slice s1a4 s1n4 s1c4, .slice s1a5 s1n5 s1c5] 82)).alloc (.cells #[.bool c.1.1.1, .slice s2a1 s2n1 s2c1, .slice s2a2 s2n2 s2c2, .bool c.2.1.1, .slice s2a4 s2n4 s2c4, .slice s2a5 s2n5 s2c5] 82)).alloc (.cells #[.bool d.1.1.1, .slice s3a1 s3n1 s3c1, .slice s3a2 s3n2 s3c2, .bool d.2.1.1, .slice s3a4 s3n4 s3c4, .slice s3a5 s3n5 s3c5] 82)) := More.refl _
    have HB : ∀ w', More ((((W.alloc (.cells #[.bool a.1.1.1, .slice s0a1 s0n1 s0c1, .slice s0a2 s0n2 s0c2, .bool a.2.1.1, .slice s0a4 s0n4 s0c4, .slice s0a5 s0n5 s0c5] 82)).alloc (.cells #[.bool b.1.1.1, .slice s1a1 s1n1 s1c1, .slice s1a2 s1n2 s1c2, .bool b.2.1.1, .slice s1a4 s1n4 s1c4, .slice s1a5 s1n5 s1c5] 82)).alloc (.cells #[.bool c.1.1.1, .slice s2a1 s2n1 s2c1, .slice s2a2 s2n2 s2c2, .bool c.2.1.1, .slice s2a4 s2n4 s2c4, .slice s2a5 s2n5 s2c5] 82)).alloc (.cells #[.bool d.1.1.1, .slice s3a1 s3n1 s3c1, .slice s3a2 s3n2 s3c2, .bool d.2.1.1, .slice s3a4 s3n4 s3c4, .slice s3a5 s3n5 s3c5] 82)) w' → w'.cell? ⟨W.heap.size, 0, none⟩ = some (.bool a.1.1.1) ∧ w'.cell? ⟨W.heap.size, 1, none⟩ = some (.slice s0a1 s0n1 s0c1) ∧ w'.cell? ⟨W.heap.size, 2, none⟩ = some (.slice s0a2 s0n2 s0c2) ∧ w'.cell? ⟨W.heap.size, 3, none⟩ = some (.bool a.2.1.1) ∧ w'.cell? ⟨W.heap.size, 4, none⟩ = some (.slice s0a4 s0n4 s0c4) ∧ w'.cell? ⟨W.heap.size, 5, none⟩ = some (.slice s0a5 s0n5 s0c5) ∧ (∀ j, w'.frozen? ⟨W.heap.size, j, none⟩ = false) ∧ w'.cell? ⟨W.heap.size + 1, 0, none⟩ = some (.bool b.1.1.1) ∧ w'.cell? ⟨W.heap.size + 1, 1, none⟩ = some (.slice s1a1 s1n1 s1c1) ∧ w'.cell? ⟨W.heap.size + 1, 2, none⟩ = some (.slice s1a2 s1n2 s1c2) ∧ w'.cell? ⟨W.heap.size + 1, 3, none⟩ = some (.bool b.2.1.1) ∧ w'.cell? ⟨W.heap.size + 1, 4, none⟩ = some (.slice s1a4 s1n4 s1c4) ∧ w'.cell? ⟨W.heap.size + 1, 5, none⟩ = some (.slice s1a5 s1n5 s1c5) ∧ (∀ j, w'.frozen? ⟨W.heap.size + 1, j, none⟩ = false) ∧ w'.cell? ⟨W.heap.size + 1 + 1, 0, none⟩ = some (.bool c.1.1.1) ∧ w'.cell? ⟨W.heap.size + 1 + 1, 1, none⟩ = some (.slice s2a1 s2n1 s2c1) ∧ w'.cell? ⟨W.heap.size + 1 + 1, 2, none⟩ = some (.slice s2a2 s2n2 s2c2) ∧ w'.cell? ⟨W.heap.size + 1 + 1, 3, none⟩ = some (.bool c.2.1.1) ∧ w'.cell? ⟨W.heap.size + 1 + 1, 4, none⟩ = some (.slice s2a4 s2n4 s2c4) ∧ w'.cell? ⟨W.heap.size + 1 + 1, 5, none⟩ = some (.slice s2a5 s2n5 s2c5) ∧ (∀ j, w'.frozen? ⟨W.heap.size + 1 + 1, j, none⟩ = false) ∧ w'.cell? ⟨W.heap.size + 1 + 1 + 1, 0, none⟩ = some (.bool d.1.1.1) ∧ w'.cell? ⟨W.heap.size + 1 + 1 + 1, 1, none⟩ = some (.slice s3a1 s3n1 s3c1) ∧ w'.cell? ⟨W.heap.size + 1 + 1 + 1, 2, none⟩ = some (.slice s3a2 s3n2 s3c2) ∧ w'.cell? ⟨W.heap.size + 1 + 1 + 1, 3, none⟩ = some (.bool d.2.1.1) ∧ w'.cell? ⟨W.heap.size + 1 + 1 + 1, 4, none⟩ = some (.slice s3a4 s3n4 s3c4) ∧ w'.cell? ⟨W.heap.size + 1 + 1 + 1, 5, none⟩ = some (.slice s3a5 s3n5 s3c5) ∧ (∀ j, w'.frozen? ⟨W.heap.size + 1 + 1 + 1, j, none⟩ = false) := fun w' h => ⟨box_new (by simp) (More.un (More.un (More.un h))) 0, box_new (by simp) (More.un (More.un (More.un h))) 1, box_new (by simp) (More.un (More.un (More.un h))) 2, box_new (by simp) (More.un (More.un (More.un h))) 3, box_new (by simp) (More.un (More.un (More.un h))) 4, box_new (by simp) (More.un (More.un (More.un h))) 5, fun j => box_free (by simp) (More.un (More.un (More.un h))) j, box_new (by simp) (More.un (More.un h)) 0, box_new (by simp) (More.un (More.un h)) 1, box_new (by simp) (More.un (More.un h)) 2, box_new (by simp) (More.un (More.un h)) 3, box_new (by simp) (More.un (More.un h)) 4, box_new (by simp) (More.un (More.un h)) 5, fun j => box_free (by simp) (More.un (More.un h)) j, box_new (by simp) (More.un h) 0, box_new (by simp) (More.un h) 1, box_new (by simp) (More.un h) 2, box_new (by simp) (More.un h) 3, box_new (by simp) (More.un h) 4, box_new (by simp) (More.un h) 5, fun j => box_free (by simp) (More.un h) j, box_new (by simp) h 0, box_new (by simp) h 1, box_new (by simp) h 2, box_new (by simp) h 3, box_new (by simp) h 4, box_new (by simp) h 5, fun j => box_free (by simp) h j⟩
    go_enter Try.func16, Try.ntmps16
    go_wp2_with fail
    refine (laws_szPoint _ a _ _ (Ty.at_more HV0.out mC) (by decide) (by decide)).mono ?_
    rintro e w1 ⟨rfl, b1⟩
    have HXa1 : Hid (More (((((W.alloc (.cells #[.bool a.1.1.1, .slice s0a1 s0n1 s0c1, .slice s0a2 s0n2 s0c2, .bool a.2.1.1, .slice s0a4 s0n4 s0c4, .slice s0a5 s0n5 s0c5] 82)).alloc (.cells #[.bool b.1.1.1, .slice s1a1 s1n1 s1c1, .slice s1a2 s1n2 s1c2, .bool b.2.1.1, .slice s1a4 s1n4 s1c4, .slice s1a5 s1n5 s1c5] 82)).alloc (.cells #[.bool c.1.1.1, .slice s2a1 s2n1 s2c1, .slice s2a2 s2n2 s2c2, .bool c.2.1.1, .slice s2a4 s2n4 s2c4, .slice s2a5 s2n5 s2c5] 82)).alloc (.cells #[.bool d.1.1.1, .slice s3a1 s3n1 s3c1, .slice s3a2 s3n2 s3c2, .bool d.2.1.1, .slice s3a4 s3n4 s3c4, .slice s3a5 s3n5 s3c5] 82))) w1) := Lib.hid mC
    have HBw1 := HB _ HXa1.out
    have hsHB1_0 : W.heap.size < w1.heap.size := by have := (HXa1.out).size; simp at this; omega
    have hsHB1_1 : W.heap.size + 1 < w1.heap.size := by have := (HXa1.out).size; simp at this; omega
    have hsHB1_2 : W.heap.size + 2 < w1.heap.size := by have := (HXa1.out).size; simp at this; omega
    have hsHB1_3 : W.heap.size + 3 < w1.heap.size := by have := (HXa1.out).size; simp at this; omega
    rw [szI_pos (by have := Hn0.out; omega)]
    have z0 : 0 ≤ (1048576 : Int) - (wPoint a : Nat) := by have := Hn0.out; omega
    go_wp2_with fail
    refine (laws_szPoint _ b _ _ (Ty.at_more HV1.out mC) (by have := Hn0.out; omega) (by omega)).mono ?_
    rintro e w2 ⟨rfl, b2⟩
    have HXa2 : Hid (More (((((W.alloc (.cells #[.bool a.1.1.1, .slice s0a1 s0n1 s0c1, .slice s0a2 s0n2 s0c2, .bool a.2.1.1, .slice s0a4 s0n4 s0c4, .slice s0a5 s0n5 s0c5] 82)).alloc (.cells #[.bool b.1.1.1, .slice s1a1 s1n1 s1c1, .slice s1a2 s1n2 s1c2, .bool b.2.1.1, .slice s1a4 s1n4 s1c4, .slice s1a5 s1n5 s1c5] 82)).alloc (.cells #[.bool c.1.1.1, .slice s2a1 s2n1 s2c1, .slice s2a2 s2n2 s2c2, .bool c.2.1.1, .slice s2a4 s2n4 s2c4, .slice s2a5 s2n5 s2c5] 82)).alloc (.cells #[.bool d.1.1.1, .slice s3a1 s3n1 s3c1, .slice s3a2 s3n2 s3c2, .bool d.2.1.1, .slice s3a4 s3n4 s3c4, .slice s3a5 s3n5 s3c5] 82))) w2) := Lib.hid mC
    have HBw2 := HB _ HXa2.out
    have hsHB2_0 : W.heap.size < w2.heap.size := by have := (HXa2.out).size; simp at this; omega
    have hsHB2_1 : W.heap.size + 1 < w2.heap.size := by have := (HXa2.out).size; simp at this; omega
    have hsHB2_2 : W.heap.size + 2 < w2.heap.size := by have := (HXa2.out).size; simp at this; omega
    have hsHB2_3 : W.heap.size + 3 < w2.heap.size := by have := (HXa2.out).size; simp at this; omega
    try clear HBw1
    rw [szI_pos (by have := Hn1.out; omega)]
    have z1 : 0 ≤ (1048576 : Int) - (wPoint a : Nat) - (wPoint b : Nat) := by have := Hn1.out; omega
    go_wp2_with fail
    refine (laws_szPoint _ c _ _ (Ty.at_more HV2.out mC) (by have := Hn1.out; omega) (by omega)).mono ?_
    rintro e w3 ⟨rfl, b3⟩
    have HXa3 : Hid (More (((((W.alloc (.cells #[.bool a.1.1.1, .slice s0a1 s0n1 s0c1, .slice s0a2 s0n2 s0c2, .bool a.2.1.1, .slice s0a4 s0n4 s0c4, .slice s0a5 s0n5 s0c5] 82)).alloc (.cells #[.bool b.1.1.1, .slice s1a1 s1n1 s1c1, .slice s1a2 s1n2 s1c2, .bool b.2.1.1, .slice s1a4 s1n4 s1c4, .slice s1a5 s1n5 s1c5] 82)).alloc (.cells #[.bool c.1.1.1, .slice s2a1 s2n1 s2c1, .slice s2a2 s2n2 s2c2, .bool c.2.1.1, .slice s2a4 s2n4 s2c4, .slice s2a5 s2n5 s2c5] 82)).alloc (.cells #[.bool d.1.1.1, .slice s3a1 s3n1 s3c1, .slice s3a2 s3n2 s3c2, .bool d.2.1.1, .slice s3a4 s3n4 s3c4, .slice s3a5 s3n5 s3c5] 82))) w3) := Lib.hid mC
    have HBw3 := HB _ HXa3.out
    have hsHB3_0 : W.heap.size < w3.heap.size := by have := (HXa3.out).size; simp at this; omega
    have hsHB3_1 : W.heap.size + 1 < w3.heap.size := by have := (HXa3.out).size; simp at this; omega
    have hsHB3_2 : W.heap.size + 2 < w3.heap.size := by have := (HXa3.out).size; simp at this; omega
    have hsHB3_3 : W.heap.size + 3 < w3.heap.size := by have := (HXa3.out).size; simp at this; omega
    try clear HBw2
    rw [szI_neg (by have := Hbad.out; omega)]
    go_wp2_with fail
    go_ret
    exact ⟨rfl, mC⟩
  by_cases hn3 : ((wPoint d : Nat) : Int) ≤ 1048576 - (wPoint a : Nat) - (wPoint b : Nat) - (wPoint c : Nat)
  rotate_left
  · have Hbad := Lib.hid hn3; clear hn3
    have Hn0 := Lib.hid hn0; clear hn0
    have Hn1 := Lib.hid hn1; clear hn1
    have Hn2 := Lib.hid hn2; clear hn2
    have HX : More ((((W.alloc (.cells #[.bool a.1.1.1, .slice s0a1 s0n1 s0c1, .slice s0a2 s0n2 s0c2, .bool a.2.1.1, .slice s0a4 s0n4 s0c4, .slice s0a5 s0n5 s0c5] 82)).alloc (.cells #[.bool b.1.1.1, .slice s1a1 s1n1 s1c1, .slice s1a2 s1n2 s1c2, .bool b.2.1.1, .slice s1a4 s1n4 s1c4, .slice s1a5 s1n5 s1c5] 82)).alloc (.cells #[.bool c.1.1.1, .slice s2a1 s2n1 s2c1, .slice s2a2 s2n2 s2c2, .bool c.2.1.1, .slice s2a4 s2n4 s2c4, .slice s2a5 s2n5 s2c5] 82)).alloc (.cells #[.bool d.1.1.1, .slice s3a1 s3n1 s3c1, .slice s3a2 s3n2 s3c2, .bool d.2.1.1, .slice s3a4 s3n4 s3c4, .slice s3a5 s3n5 s3c5] 82)) ((((W.alloc (.cells #[.bool a.1.1.1, .slice s0a1 s0n1 s0c1, .slice s0a2 s0n2 s0c2, .bool a.2.1.1, .slice s0a4 s0n4 s0c4, .slice s0a5 s0n5 s0c5] 82)).alloc (.cells #[.bool b.1.1.1, .slice s1a1 s1n1 s1c1, .slice s1a2 s1n2 s1c2, .bool b.2.1.1, .slice s1a4 s1n4 s1c4, .slice s1a5 s1n5 s1c5] 82)).alloc (.cells #[.bool c.1.1.1, .slice s2a1 s2n1 s2c1, .slice s2a2 s2n2 s2c2, .bool c.2.1.1, .slice s2a4 s2n4 s2c4, .slice s2a5 s2n5 s2c5] 82)).alloc (.cells #[.bool d.1.1.1, .slice s3a1 s3n1 s3c1, .slice s3a2 s3n2 s3c2, .bool d.2.1.1, .slice s3a4 s3n4 s3c4, .slice s3a5 s3n5 s3c5] 82)) := More.refl _
    have HB : ∀ w', More ((((W.alloc (.cells #[.bool a.1.1.1, .slice s0a1 s0n1 s0c1, .slice s0a2 s0n2 s0c2, .bool a.2.1.1, .slice s0a4 s0n4 s0c4, .slice s0a5 s0n5 s0c5] 82)).alloc (.cells #[.bool b.1.1.1, .slice s1a1 s1n1 s1c1, .slice s1a2 s1n2 s1c2, .bool b.2.1.1, .slice s1a4 s1n4 s1c4, .slice s1a5 s1n5 s1c5] 82)).alloc (.cells #[.bool c.1.1.1, .slice s2a1 s2n1 s2c1, .slice s2a2 s2n2 s2c2, .bool c.2.1.1, .slice s2a4 s2n4 s2c4, .slice s2a5 s2n5 s2c5] 82)).alloc (.cells #[.bool d.1.1.1, .slice s3a1 s3n1 s3c1, .slice s3a2 s3n2 s3c2, .bool d.2.1.1, .slice s3a4 s3n4 s3c4, .slice s3a5 s3n5 s3c5] 82)) w' → w'.cell? ⟨W.heap.size, 0, none⟩ = some (.bool a.1.1.1) ∧ w'.cell? ⟨W.heap.size, 1, none⟩ = some (.slice s0a1 s0n1 s0c1) ∧ w'.cell? ⟨W.heap.size, 2, none⟩ = some (.slice s0a2 s0n2 s0c2) ∧ w'.cell? ⟨W.heap.size, 3, none⟩ = some (.bool a.2.1.1) ∧ w'.cell? ⟨W.heap.size, 4, none⟩ = some (.slice s0a4 s0n4 s0c4) ∧ w'.cell? ⟨W.heap.size, 5, none⟩ = some (.slice s0a5 s0n5 s0c5) ∧ (∀ j, w'.frozen? ⟨W.heap.size, j, none⟩ = false) ∧ w'.cell? ⟨W.heap.size + 1, 0, none⟩ = some (.bool b.1.1.1) ∧ w'.cell? ⟨W.heap.size + 1, 1, none⟩ = some (.slice s1a1 s1n1 s1c1) ∧ w'.cell? ⟨W.heap.size + 1, 2, none⟩ = some (.slice s1a2 s1n2 s1c2) ∧ w'.cell? ⟨W.heap.size + 1, 3, none⟩ = some (.bool b.2.1.1) ∧ w'.cell? ⟨W.heap.size + 1, 4, none⟩ = some (.slice s1a4 s1n4 s1c4) ∧ w'.cell? ⟨W.heap.size + 1, 5, none⟩ = some (.slice s1a5 s1n5 s1c5) ∧ (∀ j, w'.frozen? ⟨W.heap.size + 1, j, none⟩ = false) ∧ w'.cell? ⟨W.heap.size + 1 + 1, 0, none⟩ = some (.bool c.1.1.1) ∧ w'.cell? ⟨W.heap.size + 1 + 1, 1, none⟩ = some (.slice s2a1 s2n1 s2c1) ∧ w'.cell? ⟨W.heap.size + 1 + 1, 2, none⟩ = some (.slice s2a2 s2n2 s2c2) ∧ w'.cell? ⟨W.heap.size + 1 + 1, 3, none⟩ = some (.bool c.2.1.1) ∧ w'.cell? ⟨W.heap.size + 1 + 1, 4, none⟩ = some (.slice s2a4 s2n4 s2c4) ∧ w'.cell? ⟨W.heap.size + 1 + 1, 5, none⟩ = some (.slice s2a5 s2n5 s2c5) ∧ (∀ j, w'.frozen? ⟨W.heap.size + 1 + 1, j, none⟩ = false) ∧ w'.cell? ⟨W.heap.size + 1 + 1 + 1, 0, none⟩ = some (.bool d.1.1.1) ∧ w'.cell? ⟨W.heap.size + 1 + 1 + 1, 1, none⟩ = some (.slice s3a1 s3n1 s3c1) ∧ w'.cell? ⟨W.heap.size + 1 + 1 + 1, 2, none⟩ = some (.slice s3a2 s3n2 s3c2) ∧ w'.cell? ⟨W.heap.size + 1 + 1 + 1, 3, none⟩ = some (.bool d.2.1.1) ∧ w'.cell? ⟨W.heap.size + 1 + 1 + 1, 4, none⟩ = some (.slice s3a4 s3n4 s3c4) ∧ w'.cell? ⟨W.heap.size + 1 + 1 + 1, 5, none⟩ = some (.slice s3a5 s3n5 s3c5) ∧ (∀ j, w'.frozen? ⟨W.heap.size + 1 + 1 + 1, j, none⟩ = false) := fun w' h => ⟨box_new (by simp) (More.un (More.un (More.un h))) 0, box_new (by simp) (More.un (More.un (More.un h))) 1, box_new (by simp) (More.un (More.un (More.un h))) 2, box_new (by simp) (More.un (More.un (More.un h))) 3, box_new (by simp) (More.un (More.un (More.un h))) 4, box_new (by simp) (More.un (More.un (More.un h))) 5, fun j => box_free (by simp) (More.un (More.un (More.un h))) j, box_new (by simp) (More.un (More.un h)) 0, box_new (by simp) (More.un (More.un h)) 1, box_new (by simp) (More.un (More.un h)) 2, box_new (by simp) (More.un (More.un h)) 3, box_new (by simp) (More.un (More.un h)) 4, box_new (by simp) (More.un (More.un h)) 5, fun j => box_free (by simp) (More.un (More.un h)) j, box_new (by simp) (More.un h) 0, box_new (by simp) (More.un h) 1, box_new (by simp) (More.un h) 2, box_new (by simp) (More.un h) 3, box_new (by simp) (More.un h) 4, box_new (by simp) (More.un h) 5, fun j => box_free (by simp) (More.un h) j, box_new (by simp) h 0, box_new (by simp) h 1, box_new (by simp) h 2, box_new (by simp) h 3, box_new (by simp) h 4, box_new (by simp) h 5, fun j => box_free (by simp) h j⟩
    go_enter Try.func16, Try.ntmps16
    go_wp2_with fail
    refine (laws_szPoint _ a _ _ (Ty.at_more HV0.out mC) (by decide) (by decide)).mono ?_
    rintro e w1 ⟨rfl, b1⟩
    have HXa1 : Hid (More (((((W.alloc (.cells #[.bool a.1.1.1, .slice s0a1 s0n1 s0c1, .slice s0a2 s0n2 s0c2, .bool a.2.1.1, .slice s0a4 s0n4 s0c4, .slice s0a5 s0n5 s0c5] 82)).alloc (.cells #[.bool b.1.1.1, .slice s1a1 s1n1 s1c1, .slice s1a2 s1n2 s1c2, .bool b.2.1.1, .slice s1a4 s1n4 s1c4, .slice s1a5 s1n5 s1c5] 82)).alloc (.cells #[.bool c.1.1.1, .slice s2a1 s2n1 s2c1, .slice s2a2 s2n2 s2c2, .bool c.2.1.1, .slice s2a4 s2n4 s2c4, .slice s2a5 s2n5 s2c5] 82)).alloc (.cells #[.bool d.1.1.1, .slice s3a1 s3n1 s3c1, .slice s3a2 s3n2 s3c2, .bool d.2.1.1, .slice s3a4 s3n4 s3c4, .slice s3a5 s3n5 s3c5] 82))) w1) := Lib.hid mC
    have HBw1 := HB _ HXa1.out
    have hsHB1_0 : W.heap.size < w1.heap.size := by have := (HXa1.out).size; simp at this; omega
    have hsHB1_1 : W.heap.size + 1 < w1.heap.size := by have := (HXa1.out).size; simp at this; omega
    have hsHB1_2 : W.heap.size + 2 < w1.heap.size := by have := (HXa1.out).size; simp at this; omega
    have hsHB1_3 : W.heap.size + 3 < w1.heap.size := by have := (HXa1.out).size; simp at this; omega
    rw [szI_pos (by have := Hn0.out; omega)]
    have z0 : 0 ≤ (1048576 : Int) - (wPoint a : Nat) := by have := Hn0.out; omega
    go_wp2_with fail
    refine (laws_szPoint _ b _ _ (Ty.at_more HV1.out mC) (by have := Hn0.out; omega) (by omega)).mono ?_
    rintro e w2 ⟨rfl, b2⟩
    have HXa2 : Hid (More (((((W.alloc (.cells #[.bool a.1.1.1, .slice s0a1 s0n1 s0c1, .slice s0a2 s0n2 s0c2, .bool a.2.1.1, .slice s0a4 s0n4 s0c4, .slice s0a5 s0n5 s0c5] 82)).alloc (.cells #[.bool b.1.1.1, .slice s1a1 s1n1 s1c1, .slice s1a2 s1n2 s1c2, .bool b.2.1.1, .slice s1a4 s1n4 s1c4, .slice s1a5 s1n5 s1c5] 82)).alloc (.cells #[.bool c.1.1.1, .slice s2a1 s2n1 s2c1, .slice s2a2 s2n2 s2c2, .bool c.2.1.1, .slice s2a4 s2n4 s2c4, .slice s2a5 s2n5 s2c5] 82)).alloc (.cells #[.bool d.1.1.1, .slice s3a1 s3n1 s3c1, .slice s3a2 s3n2 s3c2, .bool d.2.1.1, .slice s3a4 s3n4 s3c4, .slice s3a5 s3n5 s3c5] 82))) w2) := Lib.hid mC
    have HBw2 := HB _ HXa2.out
    have hsHB2_0 : W.heap.size < w2.heap.size := by have := (HXa2.out).size; simp at this; omega
    have hsHB2_1 : W.heap.size + 1 < w2.heap.size := by have := (HXa2.out).size; simp at this; omega
    have hsHB2_2 : W.heap.size + 2 < w2.heap.size := by have := (HXa2.out).size; simp at this; omega
    have hsHB2_3 : W.heap.size + 3 < w2.heap.size := by have := (HXa2.out).size; simp at this; omega
    try clear HBw1
    rw [szI_pos (by have := Hn1.out; omega)]
    have z1 : 0 ≤ (1048576 : Int) - (wPoint a : Nat) - (wPoint b : Nat) := by have := Hn1.out; omega
    go_wp2_with fail
    refine (laws_szPoint _ c _ _ (Ty.at_more HV2.out mC) (by have := Hn1.out; omega) (by omega)).mono ?_
    rintro e w3 ⟨rfl, b3⟩
    have HXa3 : Hid (More (((((W.alloc (.cells #[.bool a.1.1.1, .slice s0a1 s0n1 s0c1, .slice s0a2 s0n2 s0c2, .bool a.2.1.1, .slice s0a4 s0n4 s0c4, .slice s0a5 s0n5 s0c5] 82)).alloc (.cells #[.bool b.1.1.1, .slice s1a1 s1n1 s1c1, .slice s1a2 s1n2 s1c2, .bool b.2.1.1, .slice s1a4 s1n4 s1c4, .slice s1a5 s1n5 s1c5] 82)).alloc (.cells #[.bool c.1.1.1, .slice s2a1 s2n1 s2c1, .slice s2a2 s2n2 s2c2, .bool c.2.1.1, .slice s2a4 s2n4 s2c4, .slice s2a5 s2n5 s2c5] 82)).alloc (.cells #[.bool d.1.1.1, .slice s3a1 s3n1 s3c1, .slice s3a2 s3n2 s3c2, .bool d.2.1.1, .slice s3a4 s3n4 s3c4, .slice s3a5 s3n5 s3c5] 82))) w3) := Lib.hid mC
    have HBw3 := HB _ HXa3.out
    have hsHB3_0 : W.heap.size < w3.heap.size := by have := (HXa3.out).size; simp at this; omega
    have hsHB3_1 : W.heap.size + 1 < w3.heap.size := by have := (HXa3.out).size; simp at this; omega
    have hsHB3_2 : W.heap.size + 2 < w3.heap.size := by have := (HXa3.out).size; simp at this; omega
    have hsHB3_3 : W.heap.size + 3 < w3.heap.size := by have := (HXa3.out).size; simp at this; omega
    try clear HBw2
    rw [szI_pos (by have := Hn2.out; omega)]
    have z2 : 0 ≤ (1048576 : Int) - (wPoint a : Nat) - (wPoint b : Nat) - (wPoint c : Nat) := by have := Hn2.out; omega
    go_wp2_with fail
    refine (laws_szPoint _ d _ _ (Ty.at_more HV3.out mC) (by have := Hn2.out; omega) (by omega)).mono ?_
    rintro e w4 ⟨rfl, b4⟩
    have HXa4 : Hid (More (((((W.alloc (.cells #[.bool a.1.1.1, .slice s0a1 s0n1 s0c1, .slice s0a2 s0n2 s0c2, .bool a.2.1.1, .slice s0a4 s0n4 s0c4, .slice s0a5 s0n5 s0c5] 82)).alloc (.cells #[.bool b.1.1.1, .slice s1a1 s1n1 s1c1, .slice s1a2 s1n2 s1c2, .bool b.2.1.1, .slice s1a4 s1n4 s1c4, .slice s1a5 s1n5 s1c5] 82)).alloc (.cells #[.bool c.1.1.1, .slice s2a1 s2n1 s2c1, .slice s2a2 s2n2 s2c2, .bool c.2.1.1, .slice s2a4 s2n4 s2c4, .slice s2a5 s2n5 s2c5] 82)).alloc (.cells #[.bool d.1.1.1, .slice s3a1 s3n1 s3c1, .slice s3a2 s3n2 s3c2, .bool d.2.1.1, .slice s3a4 s3n4 s3c4, .slice s3a5 s3n5 s3c5] 82))) w4) := Lib.hid mC
    have HBw4 := HB _ HXa4.out
    have hsHB4_0 : W.heap.size < w4.heap.size := by have := (HXa4.out).size; simp at this; omega
    have hsHB4_1 : W.heap.size + 1 < w4.heap.size := by have := (HXa4.out).size; simp at this; omega
    have hsHB4_2 : W.heap.size + 2 < w4.heap.size := by have := (HXa4.out).size; simp at this; omega
    have hsHB4_3 : W.heap.size + 3 < w4.heap.size := by have := (HXa4.out).size; simp at this; omega
    try clear HBw3
    rw [szI_neg (by have := Hbad.out; omega)]
    go_wp2_with fail
    go_ret
    exact ⟨rfl, mC⟩
  have Hn0 := Lib.hid hn0
  have Hn1 := Lib.hid hn1
  have Hn2 := Lib.hid hn2
  have Hn3 := Lib.hid hn3
  have Hs0 : Hid (wPoint a ≤ 1048576) := Lib.hid (by omega)
  have Hs1 : Hid (wPoint b ≤ 1048576) := Lib.hid (by omega)
  have Hs2 : Hid (wPoint c ≤ 1048576) := Lib.hid (by omega)
  have Hs3 : Hid (wPoint d ≤ 1048576) := Lib.hid (by omega)
  clear hn0 hn1 hn2 hn3
  have HX : More ((((W.alloc (.cells #[.bool a.1.1.1, .slice s0a1 s0n1 s0c1, .slice s0a2 s0n2 s0c2, .bool a.2.1.1, .slice s0a4 s0n4 s0c4, .slice s0a5 s0n5 s0c5] 82)).alloc (.cells #[.bool b.1.1.1, .slice s1a1 s1n1 s1c1, .slice s1a2 s1n2 s1c2, .bool b.2.1.1, .slice s1a4 s1n4 s1c4, .slice s1a5 s1n5 s1c5] 82)).alloc (.cells #[.bool c.1.1.1, .slice s2a1 s2n1 s2c1, .slice s2a2 s2n2 s2c2, .bool c.2.1.1, .slice s2a4 s2n4 s2c4, .slice s2a5 s2n5 s2c5] 82)).alloc (.cells #[.bool d.1.1.1, .slice s3a1 s3n1 s3c1, .slice s3a2 s3n2 s3c2, .bool d.2.1.1, .slice s3a4 s3n4 s3c4, .slice s3a5 s3n5 s3c5] 82)) ((((W.alloc (.cells #[.bool a.1.1.1, .slice s0a1 s0n1 s0c1, .slice s0a2 s0n2 s0c2, .bool a.2.1.1, .slice s0a4 s0n4 s0c4, .slice s0a5 s0n5 s0c5] 82)).alloc (.cells #[.bool b.1.1.1, .slice s1a1 s1n1 s1c1, .slice s1a2 s1n2 s1c2, .bool b.2.1.1, .slice s1a4 s1n4 s1c4, .slice s1a5 s1n5 s1c5] 82)).alloc (.cells #[.bool c.1.1.1, .slice s2a1 s2n1 s2c1, .slice s2a2 s2n2 s2c2, .bool c.2.1.1, .slice s2a4 s2n4 s2c4, .slice s2a5 s2n5 s2c5] 82)).alloc (.cells #[.bool d.1.1.1, .slice s3a1 s3n1 s3c1, .slice s3a2 s3n2 s3c2, .bool d.2.1.1, .slice s3a4 s3n4 s3c4, .slice s3a5 s3n5 s3c5] 82)) := More.refl _
  have HB : ∀ w', More ((((W.alloc (.cells #[.bool a.1.1.1, .slice s0a1 s0n1 s0c1, .slice s0a2 s0n2 s0c2, .bool a.2.1.1, .slice s0a4 s0n4 s0c4, .slice s0a5 s0n5 s0c5] 82)).alloc (.cells #[.bool b.1.1.1, .slice s1a1 s1n1 s1c1, .slice s1a2 s1n2 s1c2, .bool b.2.1.1, .slice s1a4 s1n4 s1c4, .slice s1a5 s1n5 s1c5] 82)).alloc (.cells #[.bool c.1.1.1, .slice s2a1 s2n1 s2c1, .slice s2a2 s2n2 s2c2, .bool c.2.1.1, .slice s2a4 s2n4 s2c4, .slice s2a5 s2n5 s2c5] 82)).alloc (.cells #[.bool d.1.1.1, .slice s3a1 s3n1 s3c1, .slice s3a2 s3n2 s3c2, .bool d.2.1.1, .slice s3a4 s3n4 s3c4, .slice s3a5 s3n5 s3c5] 82)) w' → w'.cell? ⟨W.heap.size, 0, none⟩ = some (.bool a.1.1.1) ∧ w'.cell? ⟨W.heap.size, 1, none⟩ = some (.slice s0a1 s0n1 s0c1) ∧ w'.cell? ⟨W.heap.size, 2, none⟩ = some (.slice s0a2 s0n2 s0c2) ∧ w'.cell? ⟨W.heap.size, 3, none⟩ = some (.bool a.2.1.1) ∧ w'.cell? ⟨W.heap.size, 4, none⟩ = some (.slice s0a4 s0n4 s0c4) ∧ w'.cell? ⟨W.heap.size, 5, none⟩ = some (.slice s0a5 s0n5 s0c5) ∧ (∀ j, w'.frozen? ⟨W.heap.size, j, none⟩ = false) ∧ w'.cell? ⟨W.heap.size + 1, 0, none⟩ = some (.bool b.1.1.1) ∧ w'.cell? ⟨W.heap.size + 1, 1, none⟩ = some (.slice s1a1 s1n1 s1c1) ∧ w'.cell? ⟨W.heap.size + 1, 2, none⟩ = some (.slice s1a2 s1n2 s1c2) ∧ w'.cell? ⟨W.heap.size + 1, 3, none⟩ = some (.bool b.2.1.1) ∧ w'.cell? ⟨W.heap.size + 1, 4, none⟩ = some (.slice s1a4 s1n4 s1c4) ∧ w'.cell? ⟨W.heap.size + 1, 5, none⟩ = some (.slice s1a5 s1n5 s1c5) ∧ (∀ j, w'.frozen? ⟨W.heap.size + 1, j, none⟩ = false) ∧ w'.cell? ⟨W.heap.size + 1 + 1, 0, none⟩ = some (.bool c.1.1.1) ∧ w'.cell? ⟨W.heap.size + 1 + 1, 1, none⟩ = some (.slice s2a1 s2n1 s2c1) ∧ w'.cell? ⟨W.heap.size + 1 + 1, 2, none⟩ = some (.slice s2a2 s2n2 s2c2) ∧ w'.cell? ⟨W.heap.size + 1 + 1, 3, none⟩ = some (.bool c.2.1.1) ∧ w'.cell? ⟨W.heap.size + 1 + 1, 4, none⟩ = some (.slice s2a4 s2n4 s2c4) ∧ w'.cell? ⟨W.heap.size + 1 + 1, 5, none⟩ = some (.slice s2a5 s2n5 s2c5) ∧ (∀ j, w'.frozen? ⟨W.heap.size + 1 + 1, j, none⟩ = false) ∧ w'.cell? ⟨W.heap.size + 1 + 1 + 1, 0, none⟩ = some (.bool d.1.1.1) ∧ w'.cell? ⟨W.heap.size + 1 + 1 + 1, 1, none⟩ = some (.slice s3a1 s3n1 s3c1) ∧ w'.cell? ⟨W.heap.size + 1 + 1 + 1, 2, none⟩ = some (.slice s3a2 s3n2 s3c2) ∧ w'.cell? ⟨W.heap.size + 1 + 1 + 1, 3, none⟩ = some (.bool d.2.1.1) ∧ w'.cell? ⟨W.heap.size + 1 + 1 + 1, 4, none⟩ = some (.slice s3a4 s3n4 s3c4) ∧ w'.cell? ⟨W.heap.size + 1 + 1 + 1, 5, none⟩ = some (.slice s3a5 s3n5 s3c5) ∧ (∀ j, w'.frozen? ⟨W.heap.size + 1 + 1 + 1, j, none⟩ = false) := fun w' h => ⟨box_new (by simp) (More.un (More.un (More.un h))) 0, box_new (by simp) (More.un (More.un (More.un h))) 1, box_new (by simp) (More.un (More.un (More.un h))) 2, box_new (by simp) (More.un (More.un (More.un h))) 3, box_new (by simp) (More.un (More.un (More.un h))) 4, box_new (by simp) (More.un (More.un (More.un h))) 5, fun j => box_free (by simp) (More.un (More.un (More.un h))) j, box_new (by simp) (More.un (More.un h)) 0, box_new (by simp) (More.un (More.un h)) 1, box_new (by simp) (More.un (More.un h)) 2, box_new (by simp) (More.un (More.un h)) 3, box_new (by simp) (More.un (More.un h)) 4, box_new (by simp) (More.un (More.un h)) 5, fun j => box_free (by simp) (More.un (More.un h)) j, box_new (by simp) (More.un h) 0, box_new (by simp) (More.un h) 1, box_new (by simp) (More.un h) 2, box_new (by simp) (More.un h) 3, box_new (by simp) (More.un h) 4, box_new (by simp) (More.un h) 5, fun j => box_free (by simp) (More.un h) j, box_new (by simp) h 0, box_new (by simp) h 1, box_new (by simp) h 2, box_new (by simp) h 3, box_new (by simp) h 4, box_new (by simp) h 5, fun j => box_free (by simp) h j⟩
  go_enter Try.func16, Try.ntmps16
  go_wp2_with fail
  refine (laws_szPoint _ a _ _ (Ty.at_more HV0.out mC) (by decide) (by decide)).mono ?_
  rintro e w1 ⟨rfl, b1⟩
  have HXa1 : Hid (More (((((W.alloc (.cells #[.bool a.1.1.1, .slice s0a1 s0n1 s0c1, .slice s0a2 s0n2 s0c2, .bool a.2.1.1, .slice s0a4 s0n4 s0c4, .slice s0a5 s0n5 s0c5] 82)).alloc (.cells #[.bool b.1.1.1, .slice s1a1 s1n1 s1c1, .slice s1a2 s1n2 s1c2, .bool b.2.1.1, .slice s1a4 s1n4 s1c4, .slice s1a5 s1n5 s1c5] 82)).alloc (.cells #[.bool c.1.1.1, .slice s2a1 s2n1 s2c1, .slice s2a2 s2n2 s2c2, .bool c.2.1.1, .slice s2a4 s2n4 s2c4, .slice s2a5 s2n5 s2c5] 82)).alloc (.cells #[.bool d.1.1.1, .slice s3a1 s3n1 s3c1, .slice s3a2 s3n2 s3c2, .bool d.2.1.1, .slice s3a4 s3n4 s3c4, .slice s3a5 s3n5 s3c5] 82))) w1) := Lib.hid mC
  have HBw1 := HB _ HXa1.out
  have hsHB1_0 : W.heap.size < w1.heap.size := by have := (HXa1.out).size; simp at this; omega
  have hsHB1_1 : W.heap.size + 1 < w1.heap.size := by have := (HXa1.out).size; simp at this; omega
  have hsHB1_2 : W.heap.size + 2 < w1.heap.size := by have := (HXa1.out).size; simp at this; omega
  have hsHB1_3 : W.heap.size + 3 < w1.heap.size := by have := (HXa1.out).size; simp at this; omega
  rw [szI_pos (by have := Hn0.out; omega)]
  have z0 : 0 ≤ (1048576 : Int) - (wPoint a : Nat) := by have := Hn0.out; omega
  go_wp2_with fail
  refine (laws_szPoint _ b _ _ (Ty.at_more HV1.out mC) (by have := Hn0.out; omega) (by omega)).mono ?_
  rintro e w2 ⟨rfl, b2⟩
  have HXa2 : Hid (More (((((W.alloc (.cells #[.bool a.1.1.1, .slice s0a1 s0n1 s0c1, .slice s0a2 s0n2 s0c2, .bool a.2.1.1, .slice s0a4 s0n4 s0c4, .slice s0a5 s0n5 s0c5] 82)).alloc (.cells #[.bool b.1.1.1, .slice s1a1 s1n1 s1c1, .slice s1a2 s1n2 s1c2, .bool b.2.1.1, .slice s1a4 s1n4 s1c4, .slice s1a5 s1n5 s1c5] 82)).alloc (.cells #[.bool c.1.1.1, .slice s2a1 s2n1 s2c1, .slice s2a2 s2n2 s2c2, .bool c.2.1.1, .slice s2a4 s2n4 s2c4, .slice s2a5 s2n5 s2c5] 82)).alloc (.cells #[.bool d.1.1.1, .slice s3a1 s3n1 s3c1, .slice s3a2 s3n2 s3c2, .bool d.2.1.1, .slice s3a4 s3n4 s3c4, .slice s3a5 s3n5 s3c5] 82))) w2) := Lib.hid mC
  have HBw2 := HB _ HXa2.out
  have hsHB2_0 : W.heap.size < w2.heap.size := by have := (HXa2.out).size; simp at this; omega
  have hsHB2_1 : W.heap.size + 1 < w2.heap.size := by have := (HXa2.out).size; simp at this; omega
  have hsHB2_2 : W.heap.size + 2 < w2.heap.size := by have := (HXa2.out).size; simp at this; omega
  have hsHB2_3 : W.heap.size + 3 < w2.heap.size := by have := (HXa2.out).size; simp at this; omega
  try clear HBw1
  rw [szI_pos (by have := Hn1.out; omega)]
  have z1 : 0 ≤ (1048576 : Int) - (wPoint a : Nat) - (wPoint b : Nat) := by have := Hn1.out; omega
  go_wp2_with fail
  refine (laws_szPoint _ c _ _ (Ty.at_more HV2.out mC) (by have := Hn1.out; omega) (by omega)).mono ?_
  rintro e w3 ⟨rfl, b3⟩
  have HXa3 : Hid (More (((((W.alloc (.cells #[.bool a.1.1.1, .slice s0a1 s0n1 s0c1, .slice s0a2 s0n2 s0c2, .bool a.2.1.1, .slice s0a4 s0n4 s0c4, .slice s0a5 s0n5 s0c5] 82)).alloc (.cells #[.bool b.1.1.1, .slice s1a1 s1n1 s1c1, .slice s1a2 s1n2 s1c2, .bool b.2.1.1, .slice s1a4 s1n4 s1c4, .slice s1a5 s1n5 s1c5] 82)).alloc (.cells #[.bool c.1.1.1, .slice s2a1 s2n1 s2c1, .slice s2a2 s2n2 s2c2, .bool c.2.1.1, .slice s2a4 s2n4 s2c4, .slice s2a5 s2n5 s2c5] 82)).alloc (.cells #[.bool d.1.1.1, .slice s3a1 s3n1 s3c1, .slice s3a2 s3n2 s3c2, .bool d.2.1.1, .slice s3a4 s3n4 s3c4, .slice s3a5 s3n5 s3c5] 82))) w3) := Lib.hid mC
  have HBw3 := HB _ HXa3.out
  have hsHB3_0 : W.heap.size < w3.heap.size := by have := (HXa3.out).size; simp at this; omega
  have hsHB3_1 : W.heap.size + 1 < w3.heap.size := by have := (HXa3.out).size; simp at this; omega
  have hsHB3_2 : W.heap.size + 2 < w3.heap.size := by have := (HXa3.out).size; simp at this; omega
  have hsHB3_3 : W.heap.size + 3 < w3.heap.size := by have := (HXa3.out).size; simp at this; omega
  try clear HBw2
  rw [szI_pos (by have := Hn2.out; omega)]
  have z2 : 0 ≤ (1048576 : Int) - (wPoint a : Nat) - (wPoint b : Nat) - (wPoint c : Nat) := by have := Hn2.out; omega
  go_wp2_with fail
  refine (laws_szPoint _ d _ _ (Ty.at_more HV3.out mC) (by have := Hn2.out; omega) (by omega)).mono ?_
  rintro e w4 ⟨rfl, b4⟩
  have HXa4 : Hid (More (((((W.alloc (.cells #[.bool a.1.1.1, .slice s0a1 s0n1 s0c1, .slice s0a2 s0n2 s0c2, .bool a.2.1.1, .slice s0a4 s0n4 s0c4, .slice s0a5 s0n5 s0c5] 82)).alloc (.cells #[.bool b.1.1.1, .slice s1a1 s1n1 s1c1, .slice s1a2 s1n2 s1c2, .bool b.2.1.1, .slice s1a4 s1n4 s1c4, .slice s1a5 s1n5 s1c5] 82)).alloc (.cells #[.bool c.1.1.1, .slice s2a1 s2n1 s2c1, .slice s2a2 s2n2 s2c2, .bool c.2.1.1, .slice s2a4 s2n4 s2c4, .slice s2a5 s2n5 s2c5] 82)).alloc (.cells #[.bool d.1.1.1, .slice s3a1 s3n1 s3c1, .slice s3a2 s3n2 s3c2, .bool d.2.1.1, .slice s3a4 s3n4 s3c4, .slice s3a5 s3n5 s3c5] 82))) w4) := Lib.hid mC
  have HBw4 := HB _ HXa4.out
  have hsHB4_0 : W.heap.size < w4.heap.size := by have := (HXa4.out).size; simp at this; omega
  have hsHB4_1 : W.heap.size + 1 < w4.heap.size := by have := (HXa4.out).size; simp at this; omega
  have hsHB4_2 : W.heap.size + 2 < w4.heap.size := by have := (HXa4.out).size; simp at this; omega
  have hsHB4_3 : W.heap.size + 3 < w4.heap.size := by have := (HXa4.out).size; simp at this; omega
  try clear HBw3
  rw [szI_pos (by have := Hn3.out; omega)]
  have z3 : 0 ≤ (1048576 : Int) - (wPoint a : Nat) - (wPoint b : Nat) - (wPoint c : Nat) - (wPoint d : Nat) := by have := Hn3.out; omega
  go_wp2_with fail
  have RHB := fun (w' : World) (h : More w4 w') => HB w' (More.trans HXa4.out h)
  clear HBw4
  go_region_held3 (fun w' => More w4 w') (first | exact More.refl _ | exact mC) (first | (go_at_call 52; (with_reducible refine (laws_toPoint _ a _ (Ty.at_more HV0.out mC) Hs0.out).mono ?_); rintro e w5 ⟨c0, rfl, b5, Fc0⟩; obtain ⟨c0za1, c0zn1, c0zc1, c0za2, c0zn2, c0zc2, c0za4, c0zn4, c0zc4, c0za5, c0zn5, c0zc5, rfl⟩ := sh_Point (Ty.fresh_at Fc0)) | (go_at_call 52; (with_reducible refine (laws_toPoint _ b _ (Ty.at_more HV1.out mC) Hs1.out).mono ?_); rintro e w6 ⟨c1, rfl, b6, Fc1⟩; obtain ⟨c1za1, c1zn1, c1zc1, c1za2, c1zn2, c1zc2, c1za4, c1zn4, c1zc4, c1za5, c1zn5, c1zc5, rfl⟩ := sh_Point (Ty.fresh_at Fc1)) | (go_at_call 52; (with_reducible refine (laws_toPoint _ c _ (Ty.at_more HV2.out mC) Hs2.out).mono ?_); rintro e w7 ⟨c2, rfl, b7, Fc2⟩; obtain ⟨c2za1, c2zn1, c2zc1, c2za2, c2zn2, c2zc2, c2za4, c2zn4, c2zc4, c2za5, c2zn5, c2zc5, rfl⟩ := sh_Point (Ty.fresh_at Fc2)) | (go_at_call 52; (with_reducible refine (laws_toPoint _ d _ (Ty.at_more HV3.out mC) Hs3.out).mono ?_); rintro e w8 ⟨c3, rfl, b8, Fc3⟩; obtain ⟨c3za1, c3zn1, c3zc1, c3za2, c3zn2, c3zc2, c3za4, c3zn4, c3zc4, c3za5, c3zn5, c3zc5, rfl⟩ := sh_Point (Ty.fresh_at Fc3)) | (go_at_call 74; (with_reducible refine (spec_SegmentsMeet _ a.1 a.2 _ b.1 b.2 _ c.1 c.2 _ d.1 d.2 _ (Ty.at_more (Ty.fresh_at Fc0) (Turns.more (by ((repeat (first | (with_reducible apply Turns.drew) | (with_reducible apply Turns.drewN) | (with_reducible apply Turns.alloc))); (with_reducible refine Turns.via b8 ?_); (repeat (first | (with_reducible apply Turns.drew) | (with_reducible apply Turns.drewN) | (with_reducible apply Turns.alloc))); (with_reducible refine Turns.via b7 ?_); (repeat (first | (with_reducible apply Turns.drew) | (with_reducible apply Turns.drewN) | (with_reducible apply Turns.alloc))); (with_reducible refine Turns.via b6 ?_); (repeat (first | (with_reducible apply Turns.drew) | (with_reducible apply Turns.drewN) | (with_reducible apply Turns.alloc))); exact Turns.refl _ _)))) Hs0.out (Ty.at_more (Ty.fresh_at Fc1) (Turns.more (by ((repeat (first | (with_reducible apply Turns.drew) | (with_reducible apply Turns.drewN) | (with_reducible apply Turns.alloc))); (with_reducible refine Turns.via b8 ?_); (repeat (first | (with_reducible apply Turns.drew) | (with_reducible apply Turns.drewN) | (with_reducible apply Turns.alloc))); (with_reducible refine Turns.via b7 ?_); (repeat (first | (with_reducible apply Turns.drew) | (with_reducible apply Turns.drewN) | (with_reducible apply Turns.alloc))); exact Turns.refl _ _)))) Hs1.out (Ty.at_more (Ty.fresh_at Fc2) (Turns.more (by ((repeat (first | (with_reducible apply Turns.drew) | (with_reducible apply Turns.drewN) | (with_reducible apply Turns.alloc))); (with_reducible refine Turns.via b8 ?_); (repeat (first | (with_reducible apply Turns.drew) | (with_reducible apply Turns.drewN) | (with_reducible apply Turns.alloc))); exact Turns.refl _ _)))) Hs2.out (Ty.at_more (Ty.fresh_at Fc3) (Turns.more (by ((repeat (first | (with_reducible apply Turns.drew) | (with_reducible apply Turns.drewN) | (with_reducible apply Turns.alloc))); exact Turns.refl _ _)))) Hs3.out).mono ?_); rintro e w9 ⟨rfl, b9⟩))
  clear RHB
  have HXa9 : Hid (More (((((W.alloc (.cells #[.bool a.1.1.1, .slice s0a1 s0n1 s0c1, .slice s0a2 s0n2 s0c2, .bool a.2.1.1, .slice s0a4 s0n4 s0c4, .slice s0a5 s0n5 s0c5] 82)).alloc (.cells #[.bool b.1.1.1, .slice s1a1 s1n1 s1c1, .slice s1a2 s1n2 s1c2, .bool b.2.1.1, .slice s1a4 s1n4 s1c4, .slice s1a5 s1n5 s1c5] 82)).alloc (.cells #[.bool c.1.1.1, .slice s2a1 s2n1 s2c1, .slice s2a2 s2n2 s2c2, .bool c.2.1.1, .slice s2a4 s2n4 s2c4, .slice s2a5 s2n5 s2c5] 82)).alloc (.cells #[.bool d.1.1.1, .slice s3a1 s3n1 s3c1, .slice s3a2 s3n2 s3c2, .bool d.2.1.1, .slice s3a4 s3n4 s3c4, .slice s3a5 s3n5 s3c5] 82))) w9) := Lib.hid mC
  have HBw9 := HB _ HXa9.out
  have hsHB9_0 : W.heap.size < w9.heap.size := by have := (HXa9.out).size; simp at this; omega
  have hsHB9_1 : W.heap.size + 1 < w9.heap.size := by have := (HXa9.out).size; simp at this; omega
  have hsHB9_2 : W.heap.size + 2 < w9.heap.size := by have := (HXa9.out).size; simp at this; omega
  have hsHB9_3 : W.heap.size + 3 < w9.heap.size := by have := (HXa9.out).size; simp at this; omega
  try clear HBw8
  go_wp2_with fail
  refine (laws_toPoint _ a _ (Ty.at_more HV0.out mC) Hs0.out).mono ?_
  rintro e w10 ⟨x0, rfl, b10, Fx0⟩
  have HXa10 : Hid (More (((((W.alloc (.cells #[.bool a.1.1.1, .slice s0a1 s0n1 s0c1, .slice s0a2 s0n2 s0c2, .bool a.2.1.1, .slice s0a4 s0n4 s0c4, .slice s0a5 s0n5 s0c5] 82)).alloc (.cells #[.bool b.1.1.1, .slice s1a1 s1n1 s1c1, .slice s1a2 s1n2 s1c2, .bool b.2.1.1, .slice s1a4 s1n4 s1c4, .slice s1a5 s1n5 s1c5] 82)).alloc (.cells #[.bool c.1.1.1, .slice s2a1 s2n1 s2c1, .slice s2a2 s2n2 s2c2, .bool c.2.1.1, .slice s2a4 s2n4 s2c4, .slice s2a5 s2n5 s2c5] 82)).alloc (.cells #[.bool d.1.1.1, .slice s3a1 s3n1 s3c1, .slice s3a2 s3n2 s3c2, .bool d.2.1.1, .slice s3a4 s3n4 s3c4, .slice s3a5 s3n5 s3c5] 82))) w10) := Lib.hid mC
  have HBw10 := HB _ HXa10.out
  have hsHB10_0 : W.heap.size < w10.heap.size := by have := (HXa10.out).size; simp at this; omega
  have hsHB10_1 : W.heap.size + 1 < w10.heap.size := by have := (HXa10.out).size; simp at this; omega
  have hsHB10_2 : W.heap.size + 2 < w10.heap.size := by have := (HXa10.out).size; simp at this; omega
  have hsHB10_3 : W.heap.size + 3 < w10.heap.size := by have := (HXa10.out).size; simp at this; omega
  try clear HBw9
  obtain ⟨x0za1, x0zn1, x0zc1, x0za2, x0zn2, x0zc2, x0za4, x0zn4, x0zc4, x0za5, x0zn5, x0zc5, rfl⟩ := sh_Point (Ty.fresh_at Fx0)
  have HBx0 : ∀ w', More (w10.alloc (.cells #[.bool a.1.1.1, .slice x0za1 x0zn1 x0zc1, .slice x0za2 x0zn2 x0zc2, .bool a.2.1.1, .slice x0za4 x0zn4 x0zc4, .slice x0za5 x0zn5 x0zc5] 89)) w' → w'.cell? ⟨w10.heap.size, 0, none⟩ = some (.bool a.1.1.1) ∧ w'.cell? ⟨w10.heap.size, 1, none⟩ = some (.slice x0za1 x0zn1 x0zc1) ∧ w'.cell? ⟨w10.heap.size, 2, none⟩ = some (.slice x0za2 x0zn2 x0zc2) ∧ w'.cell? ⟨w10.heap.size, 3, none⟩ = some (.bool a.2.1.1) ∧ w'.cell? ⟨w10.heap.size, 4, none⟩ = some (.slice x0za4 x0zn4 x0zc4) ∧ w'.cell? ⟨w10.heap.size, 5, none⟩ = some (.slice x0za5 x0zn5 x0zc5) := fun w' h => ⟨box_new rfl h 0, box_new rfl h 1, box_new rfl h 2, box_new rfl h 3, box_new rfl h 4, box_new rfl h 5⟩
  go_wp2_with fail
  refine (laws_toPoint _ b _ (Ty.at_more HV1.out mC) Hs1.out).mono ?_
  rintro e w11 ⟨x1, rfl, b11, Fx1⟩
  have HXa11 : Hid (More (((((W.alloc (.cells #[.bool a.1.1.1, .slice s0a1 s0n1 s0c1, .slice s0a2 s0n2 s0c2, .bool a.2.1.1, .slice s0a4 s0n4 s0c4, .slice s0a5 s0n5 s0c5] 82)).alloc (.cells #[.bool b.1.1.1, .slice s1a1 s1n1 s1c1, .slice s1a2 s1n2 s1c2, .bool b.2.1.1, .slice s1a4 s1n4 s1c4, .slice s1a5 s1n5 s1c5] 82)).alloc (.cells #[.bool c.1.1.1, .slice s2a1 s2n1 s2c1, .slice s2a2 s2n2 s2c2, .bool c.2.1.1, .slice s2a4 s2n4 s2c4, .slice s2a5 s2n5 s2c5] 82)).alloc (.cells #[.bool d.1.1.1, .slice s3a1 s3n1 s3c1, .slice s3a2 s3n2 s3c2, .bool d.2.1.1, .slice s3a4 s3n4 s3c4, .slice s3a5 s3n5 s3c5] 82))) w11) := Lib.hid mC
  have HBw11 := HB _ HXa11.out
  have hsHB11_0 : W.heap.size < w11.heap.size := by have := (HXa11.out).size; simp at this; omega
  have hsHB11_1 : W.heap.size + 1 < w11.heap.size := by have := (HXa11.out).size; simp at this; omega
  have hsHB11_2 : W.heap.size + 2 < w11.heap.size := by have := (HXa11.out).size; simp at this; omega
  have hsHB11_3 : W.heap.size + 3 < w11.heap.size := by have := (HXa11.out).size; simp at this; omega
  try clear HBw10
  have HXx0_11 : Hid (More (w10.alloc (.cells #[.bool a.1.1.1, .slice x0za1 x0zn1 x0zc1, .slice x0za2 x0zn2 x0zc2, .bool a.2.1.1, .slice x0za4 x0zn4 x0zc4, .slice x0za5 x0zn5 x0zc5] 89)) w11) := Lib.hid mC
  have HBx0w11 := HBx0 _ HXx0_11.out
  have hsHBx011_0 : w10.heap.size < w11.heap.size := by have := (HXx0_11.out).size; simp at this; omega
  try clear HBx0w10
  obtain ⟨x1za1, x1zn1, x1zc1, x1za2, x1zn2, x1zc2, x1za4, x1zn4, x1zc4, x1za5, x1zn5, x1zc5, rfl⟩ := sh_Point (Ty.fresh_at Fx1)
  have HBx1 : ∀ w', More (w11.alloc (.cells #[.bool b.1.1.1, .slice x1za1 x1zn1 x1zc1, .slice x1za2 x1zn2 x1zc2, .bool b.2.1.1, .slice x1za4 x1zn4 x1zc4, .slice x1za5 x1zn5 x1zc5] 89)) w' → w'.cell? ⟨w11.heap.size, 0, none⟩ = some (.bool b.1.1.1) ∧ w'.cell? ⟨w11.heap.size, 1, none⟩ = some (.slice x1za1 x1zn1 x1zc1) ∧ w'.cell? ⟨w11.heap.size, 2, none⟩ = some (.slice x1za2 x1zn2 x1zc2) ∧ w'.cell? ⟨w11.heap.size, 3, none⟩ = some (.bool b.2.1.1) ∧ w'.cell? ⟨w11.heap.size, 4, none⟩ = some (.slice x1za4 x1zn4 x1zc4) ∧ w'.cell? ⟨w11.heap.size, 5, none⟩ = some (.slice x1za5 x1zn5 x1zc5) := fun w' h => ⟨box_new rfl h 0, box_new rfl h 1, box_new rfl h 2, box_new rfl h 3, box_new rfl h 4, box_new rfl h 5⟩
  go_wp2_with fail
  refine (laws_toPoint _ c _ (Ty.at_more HV2.out mC) Hs2.out).mono ?_
  rintro e w12 ⟨x2, rfl, b12, Fx2⟩
  have HXa12 : Hid (More (((((W.alloc (.cells #[.bool a.1.1.1, .slice s0a1 s0n1 s0c1, .slice s0a2 s0n2 s0c2, .bool a.2.1.1, .slice s0a4 s0n4 s0c4, .slice s0a5 s0n5 s0c5] 82)).alloc (.cells #[.bool b.1.1.1, .slice s1a1 s1n1 s1c1, .slice s1a2 s1n2 s1c2, .bool b.2.1.1, .slice s1a4 s1n4 s1c4, .slice s1a5 s1n5 s1c5] 82)).alloc (.cells #[.bool c.1.1.1, .slice s2a1 s2n1 s2c1, .slice s2a2 s2n2 s2c2, .bool c.2.1.1, .slice s2a4 s2n4 s2c4, .slice s2a5 s2n5 s2c5] 82)).alloc (.cells #[.bool d.1.1.1, .slice s3a1 s3n1 s3c1, .slice s3a2 s3n2 s3c2, .bool d.2.1.1, .slice s3a4 s3n4 s3c4, .slice s3a5 s3n5 s3c5] 82))) w12) := Lib.hid mC
  have HBw12 := HB _ HXa12.out
  have hsHB12_0 : W.heap.size < w12.heap.size := by have := (HXa12.out).size; simp at this; omega
  have hsHB12_1 : W.heap.size + 1 < w12.heap.size := by have := (HXa12.out).size; simp at this; omega
  have hsHB12_2 : W.heap.size + 2 < w12.heap.size := by have := (HXa12.out).size; simp at this; omega
  have hsHB12_3 : W.heap.size + 3 < w12.heap.size := by have := (HXa12.out).size; simp at this; omega
  try clear HBw11
  have HXx0_12 : Hid (More (w10.alloc (.cells #[.bool a.1.1.1, .slice x0za1 x0zn1 x0zc1, .slice x0za2 x0zn2 x0zc2, .bool a.2.1.1, .slice x0za4 x0zn4 x0zc4, .slice x0za5 x0zn5 x0zc5] 89)) w12) := Lib.hid mC
  have HBx0w12 := HBx0 _ HXx0_12.out
  have hsHBx012_0 : w10.heap.size < w12.heap.size := by have := (HXx0_12.out).size; simp at this; omega
  try clear HBx0w11
  have HXx1_12 : Hid (More (w11.alloc (.cells #[.bool b.1.1.1, .slice x1za1 x1zn1 x1zc1, .slice x1za2 x1zn2 x1zc2, .bool b.2.1.1, .slice x1za4 x1zn4 x1zc4, .slice x1za5 x1zn5 x1zc5] 89)) w12) := Lib.hid mC
  have HBx1w12 := HBx1 _ HXx1_12.out
  have hsHBx112_0 : w11.heap.size < w12.heap.size := by have := (HXx1_12.out).size; simp at this; omega
  try clear HBx1w11
  obtain ⟨x2za1, x2zn1, x2zc1, x2za2, x2zn2, x2zc2, x2za4, x2zn4, x2zc4, x2za5, x2zn5, x2zc5, rfl⟩ := sh_Point (Ty.fresh_at Fx2)
  have HBx2 : ∀ w', More (w12.alloc (.cells #[.bool c.1.1.1, .slice x2za1 x2zn1 x2zc1, .slice x2za2 x2zn2 x2zc2, .bool c.2.1.1, .slice x2za4 x2zn4 x2zc4, .slice x2za5 x2zn5 x2zc5] 89)) w' → w'.cell? ⟨w12.heap.size, 0, none⟩ = some (.bool c.1.1.1) ∧ w'.cell? ⟨w12.heap.size, 1, none⟩ = some (.slice x2za1 x2zn1 x2zc1) ∧ w'.cell? ⟨w12.heap.size, 2, none⟩ = some (.slice x2za2 x2zn2 x2zc2) ∧ w'.cell? ⟨w12.heap.size, 3, none⟩ = some (.bool c.2.1.1) ∧ w'.cell? ⟨w12.heap.size, 4, none⟩ = some (.slice x2za4 x2zn4 x2zc4) ∧ w'.cell? ⟨w12.heap.size, 5, none⟩ = some (.slice x2za5 x2zn5 x2zc5) := fun w' h => ⟨box_new rfl h 0, box_new rfl h 1, box_new rfl h 2, box_new rfl h 3, box_new rfl h 4, box_new rfl h 5⟩
  go_wp2_with fail
  refine (laws_toPoint _ d _ (Ty.at_more HV3.out mC) Hs3.out).mono ?_
  rintro e w13 ⟨x3, rfl, b13, Fx3⟩
  have HXa13 : Hid (More (((((W.alloc (.cells #[.bool a.1.1.1, .slice s0a1 s0n1 s0c1, .slice s0a2 s0n2 s0c2, .bool a.2.1.1, .slice s0a4 s0n4 s0c4, .slice s0a5 s0n5 s0c5] 82)).alloc (.cells #[.bool b.1.1.1, .slice s1a1 s1n1 s1c1, .slice s1a2 s1n2 s1c2, .bool b.2.1.1, .slice s1a4 s1n4 s1c4, .slice s1a5 s1n5 s1c5] 82)).alloc (.cells #[.bool c.1.1.1, .slice s2a1 s2n1 s2c1, .slice s2a2 s2n2 s2c2, .bool c.2.1.1, .slice s2a4 s2n4 s2c4, .slice s2a5 s2n5 s2c5] 82)).alloc (.cells #[.bool d.1.1.1, .slice s3a1 s3n1 s3c1, .slice s3a2 s3n2 s3c2, .bool d.2.1.1, .slice s3a4 s3n4 s3c4, .slice s3a5 s3n5 s3c5] 82))) w13) := Lib.hid mC
  have HBw13 := HB _ HXa13.out
  have hsHB13_0 : W.heap.size < w13.heap.size := by have := (HXa13.out).size; simp at this; omega
  have hsHB13_1 : W.heap.size + 1 < w13.heap.size := by have := (HXa13.out).size; simp at this; omega
  have hsHB13_2 : W.heap.size + 2 < w13.heap.size := by have := (HXa13.out).size; simp at this; omega
  have hsHB13_3 : W.heap.size + 3 < w13.heap.size := by have := (HXa13.out).size; simp at this; omega
  try clear HBw12
  have HXx0_13 : Hid (More (w10.alloc (.cells #[.bool a.1.1.1, .slice x0za1 x0zn1 x0zc1, .slice x0za2 x0zn2 x0zc2, .bool a.2.1.1, .slice x0za4 x0zn4 x0zc4, .slice x0za5 x0zn5 x0zc5] 89)) w13) := Lib.hid mC
  have HBx0w13 := HBx0 _ HXx0_13.out
  have hsHBx013_0 : w10.heap.size < w13.heap.size := by have := (HXx0_13.out).size; simp at this; omega
  try clear HBx0w12
  have HXx1_13 : Hid (More (w11.alloc (.cells #[.bool b.1.1.1, .slice x1za1 x1zn1 x1zc1, .slice x1za2 x1zn2 x1zc2, .bool b.2.1.1, .slice x1za4 x1zn4 x1zc4, .slice x1za5 x1zn5 x1zc5] 89)) w13) := Lib.hid mC
  have HBx1w13 := HBx1 _ HXx1_13.out
  have hsHBx113_0 : w11.heap.size < w13.heap.size := by have := (HXx1_13.out).size; simp at this; omega
  try clear HBx1w12
  have HXx2_13 : Hid (More (w12.alloc (.cells #[.bool c.1.1.1, .slice x2za1 x2zn1 x2zc1, .slice x2za2 x2zn2 x2zc2, .bool c.2.1.1, .slice x2za4 x2zn4 x2zc4, .slice x2za5 x2zn5 x2zc5] 89)) w13) := Lib.hid mC
  have HBx2w13 := HBx2 _ HXx2_13.out
  have hsHBx213_0 : w12.heap.size < w13.heap.size := by have := (HXx2_13.out).size; simp at this; omega
  try clear HBx2w12
  obtain ⟨x3za1, x3zn1, x3zc1, x3za2, x3zn2, x3zc2, x3za4, x3zn4, x3zc4, x3za5, x3zn5, x3zc5, rfl⟩ := sh_Point (Ty.fresh_at Fx3)
  have HBx3 : ∀ w', More (w13.alloc (.cells #[.bool d.1.1.1, .slice x3za1 x3zn1 x3zc1, .slice x3za2 x3zn2 x3zc2, .bool d.2.1.1, .slice x3za4 x3zn4 x3zc4, .slice x3za5 x3zn5 x3zc5] 89)) w' → w'.cell? ⟨w13.heap.size, 0, none⟩ = some (.bool d.1.1.1) ∧ w'.cell? ⟨w13.heap.size, 1, none⟩ = some (.slice x3za1 x3zn1 x3zc1) ∧ w'.cell? ⟨w13.heap.size, 2, none⟩ = some (.slice x3za2 x3zn2 x3zc2) ∧ w'.cell? ⟨w13.heap.size, 3, none⟩ = some (.bool d.2.1.1) ∧ w'.cell? ⟨w13.heap.size, 4, none⟩ = some (.slice x3za4 x3zn4 x3zc4) ∧ w'.cell? ⟨w13.heap.size, 5, none⟩ = some (.slice x3za5 x3zn5 x3zc5) := fun w' h => ⟨box_new rfl h 0, box_new rfl h 1, box_new rfl h 2, box_new rfl h 3, box_new rfl h 4, box_new rfl h 5⟩
  go_wp2_with fail
  refine (impl_SegmentsMeet _ a.1 a.2 _ b.1 b.2 _ c.1 c.2 _ d.1 d.2 _ (Ty.at_more (Ty.fresh_at Fx0) mC) Hs0.out (Ty.at_more (Ty.fresh_at Fx1) mC) Hs1.out (Ty.at_more (Ty.fresh_at Fx2) mC) Hs2.out (Ty.at_more (Ty.fresh_at Fx3) mC) Hs3.out).mono ?_
  rintro e w14 ⟨rfl, b14⟩
  have HXa14 : Hid (More (((((W.alloc (.cells #[.bool a.1.1.1, .slice s0a1 s0n1 s0c1, .slice s0a2 s0n2 s0c2, .bool a.2.1.1, .slice s0a4 s0n4 s0c4, .slice s0a5 s0n5 s0c5] 82)).alloc (.cells #[.bool b.1.1.1, .slice s1a1 s1n1 s1c1, .slice s1a2 s1n2 s1c2, .bool b.2.1.1, .slice s1a4 s1n4 s1c4, .slice s1a5 s1n5 s1c5] 82)).alloc (.cells #[.bool c.1.1.1, .slice s2a1 s2n1 s2c1, .slice s2a2 s2n2 s2c2, .bool c.2.1.1, .slice s2a4 s2n4 s2c4, .slice s2a5 s2n5 s2c5] 82)).alloc (.cells #[.bool d.1.1.1, .slice s3a1 s3n1 s3c1, .slice s3a2 s3n2 s3c2, .bool d.2.1.1, .slice s3a4 s3n4 s3c4, .slice s3a5 s3n5 s3c5] 82))) w14) := Lib.hid mC
  have HBw14 := HB _ HXa14.out
  have hsHB14_0 : W.heap.size < w14.heap.size := by have := (HXa14.out).size; simp at this; omega
  have hsHB14_1 : W.heap.size + 1 < w14.heap.size := by have := (HXa14.out).size; simp at this; omega
  have hsHB14_2 : W.heap.size + 2 < w14.heap.size := by have := (HXa14.out).size; simp at this; omega
  have hsHB14_3 : W.heap.size + 3 < w14.heap.size := by have := (HXa14.out).size; simp at this; omega
  try clear HBw13
  have HXx0_14 : Hid (More (w10.alloc (.cells #[.bool a.1.1.1, .slice x0za1 x0zn1 x0zc1, .slice x0za2 x0zn2 x0zc2, .bool a.2.1.1, .slice x0za4 x0zn4 x0zc4, .slice x0za5 x0zn5 x0zc5] 89)) w14) := Lib.hid mC
  have HBx0w14 := HBx0 _ HXx0_14.out
  have hsHBx014_0 : w10.heap.size < w14.heap.size := by have := (HXx0_14.out).size; simp at this; omega
  try clear HBx0w13
  have HXx1_14 : Hid (More (w11.alloc (.cells #[.bool b.1.1.1, .slice x1za1 x1zn1 x1zc1, .slice x1za2 x1zn2 x1zc2, .bool b.2.1.1, .slice x1za4 x1zn4 x1zc4, .slice x1za5 x1zn5 x1zc5] 89)) w14) := Lib.hid mC
  have HBx1w14 := HBx1 _ HXx1_14.out
  have hsHBx114_0 : w11.heap.size < w14.heap.size := by have := (HXx1_14.out).size; simp at this; omega
  try clear HBx1w13
  have HXx2_14 : Hid (More (w12.alloc (.cells #[.bool c.1.1.1, .slice x2za1 x2zn1 x2zc1, .slice x2za2 x2zn2 x2zc2, .bool c.2.1.1, .slice x2za4 x2zn4 x2zc4, .slice x2za5 x2zn5 x2zc5] 89)) w14) := Lib.hid mC
  have HBx2w14 := HBx2 _ HXx2_14.out
  have hsHBx214_0 : w12.heap.size < w14.heap.size := by have := (HXx2_14.out).size; simp at this; omega
  try clear HBx2w13
  have HXx3_14 : Hid (More (w13.alloc (.cells #[.bool d.1.1.1, .slice x3za1 x3zn1 x3zc1, .slice x3za2 x3zn2 x3zc2, .bool d.2.1.1, .slice x3za4 x3zn4 x3zc4, .slice x3za5 x3zn5 x3zc5] 89)) w14) := Lib.hid mC
  have HBx3w14 := HBx3 _ HXx3_14.out
  have hsHBx314_0 : w13.heap.size < w14.heap.size := by have := (HXx3_14.out).size; simp at this; omega
  try clear HBx3w13
  go_wp2_with fail
  have RHB := fun (w' : World) (h : More w14 w') => HB w' (More.trans HXa14.out h)
  clear HBw14
  have RHBx0 := fun (w' : World) (h : More w14 w') => HBx0 w' (More.trans HXx0_14.out h)
  clear HBx0w14
  have RHBx1 := fun (w' : World) (h : More w14 w') => HBx1 w' (More.trans HXx1_14.out h)
  clear HBx1w14
  have RHBx2 := fun (w' : World) (h : More w14 w') => HBx2 w' (More.trans HXx2_14.out h)
  clear HBx2w14
  have RHBx3 := fun (w' : World) (h : More w14 w') => HBx3 w' (More.trans HXx3_14.out h)
  clear HBx3w14
  go_region_held3 (fun w' => More w14 w') (first | exact More.refl _ | exact mC) (first | (go_at_call 52; (with_reducible refine (laws_toPoint _ a _ (Ty.at_more HV0.out mC) Hs0.out).mono ?_); rintro e w15 ⟨t0, rfl, b15, Ft0⟩; obtain ⟨t0za1, t0zn1, t0zc1, t0za2, t0zn2, t0zc2, t0za4, t0zn4, t0zc4, t0za5, t0zn5, t0zc5, rfl⟩ := sh_Point (Ty.fresh_at Ft0)) | (go_at_call 54; (with_reducible refine (laws_eqPoint _ _ a _ (Ty.at_more (Ty.fresh_at Fx0) mC) (Ty.at_more (Ty.fresh_at Ft0) (Turns.more (by ((repeat (first | (with_reducible apply Turns.drew) | (with_reducible apply Turns.drewN) | (with_reducible apply Turns.alloc))); exact Turns.refl _ _)))) Hs0.out).mono ?_); rintro e w16 ⟨rfl, b16⟩))
  clear RHB
  clear RHBx0
  clear RHBx1
  clear RHBx2
  clear RHBx3
  have HXa16 : Hid (More (((((W.alloc (.cells #[.bool a.1.1.1, .slice s0a1 s0n1 s0c1, .slice s0a2 s0n2 s0c2, .bool a.2.1.1, .slice s0a4 s0n4 s0c4, .slice s0a5 s0n5 s0c5] 82)).alloc (.cells #[.bool b.1.1.1, .slice s1a1 s1n1 s1c1, .slice s1a2 s1n2 s1c2, .bool b.2.1.1, .slice s1a4 s1n4 s1c4, .slice s1a5 s1n5 s1c5] 82)).alloc (.cells #[.bool c.1.1.1, .slice s2a1 s2n1 s2c1, .slice s2a2 s2n2 s2c2, .bool c.2.1.1, .slice s2a4 s2n4 s2c4, .slice s2a5 s2n5 s2c5] 82)).alloc (.cells #[.bool d.1.1.1, .slice s3a1 s3n1 s3c1, .slice s3a2 s3n2 s3c2, .bool d.2.1.1, .slice s3a4 s3n4 s3c4, .slice s3a5 s3n5 s3c5] 82))) w16) := Lib.hid mC
  have HBw16 := HB _ HXa16.out
  have hsHB16_0 : W.heap.size < w16.heap.size := by have := (HXa16.out).size; simp at this; omega
  have hsHB16_1 : W.heap.size + 1 < w16.heap.size := by have := (HXa16.out).size; simp at this; omega
  have hsHB16_2 : W.heap.size + 2 < w16.heap.size := by have := (HXa16.out).size; simp at this; omega
  have hsHB16_3 : W.heap.size + 3 < w16.heap.size := by have := (HXa16.out).size; simp at this; omega
  try clear HBw15
  have HXx0_16 : Hid (More (w10.alloc (.cells #[.bool a.1.1.1, .slice x0za1 x0zn1 x0zc1, .slice x0za2 x0zn2 x0zc2, .bool a.2.1.1, .slice x0za4 x0zn4 x0zc4, .slice x0za5 x0zn5 x0zc5] 89)) w16) := Lib.hid mC
  have HBx0w16 := HBx0 _ HXx0_16.out
  have hsHBx016_0 : w10.heap.size < w16.heap.size := by have := (HXx0_16.out).size; simp at this; omega
  try clear HBx0w15
  have HXx1_16 : Hid (More (w11.alloc (.cells #[.bool b.1.1.1, .slice x1za1 x1zn1 x1zc1, .slice x1za2 x1zn2 x1zc2, .bool b.2.1.1, .slice x1za4 x1zn4 x1zc4, .slice x1za5 x1zn5 x1zc5] 89)) w16) := Lib.hid mC
  have HBx1w16 := HBx1 _ HXx1_16.out
  have hsHBx116_0 : w11.heap.size < w16.heap.size := by have := (HXx1_16.out).size; simp at this; omega
  try clear HBx1w15
  have HXx2_16 : Hid (More (w12.alloc (.cells #[.bool c.1.1.1, .slice x2za1 x2zn1 x2zc1, .slice x2za2 x2zn2 x2zc2, .bool c.2.1.1, .slice x2za4 x2zn4 x2zc4, .slice x2za5 x2zn5 x2zc5] 89)) w16) := Lib.hid mC
  have HBx2w16 := HBx2 _ HXx2_16.out
  have hsHBx216_0 : w12.heap.size < w16.heap.size := by have := (HXx2_16.out).size; simp at this; omega
  try clear HBx2w15
  have HXx3_16 : Hid (More (w13.alloc (.cells #[.bool d.1.1.1, .slice x3za1 x3zn1 x3zc1, .slice x3za2 x3zn2 x3zc2, .bool d.2.1.1, .slice x3za4 x3zn4 x3zc4, .slice x3za5 x3zn5 x3zc5] 89)) w16) := Lib.hid mC
  have HBx3w16 := HBx3 _ HXx3_16.out
  have hsHBx316_0 : w13.heap.size < w16.heap.size := by have := (HXx3_16.out).size; simp at this; omega
  try clear HBx3w15
  go_wp2_with fail
  have RHB := fun (w' : World) (h : More w16 w') => HB w' (More.trans HXa16.out h)
  clear HBw16
  have RHBx0 := fun (w' : World) (h : More w16 w') => HBx0 w' (More.trans HXx0_16.out h)
  clear HBx0w16
  have RHBx1 := fun (w' : World) (h : More w16 w') => HBx1 w' (More.trans HXx1_16.out h)
  clear HBx1w16
  have RHBx2 := fun (w' : World) (h : More w16 w') => HBx2 w' (More.trans HXx2_16.out h)
  clear HBx2w16
  have RHBx3 := fun (w' : World) (h : More w16 w') => HBx3 w' (More.trans HXx3_16.out h)
  clear HBx3w16
  go_region_held3 (fun w' => More w16 w') (first | exact More.refl _ | exact mC) (first | (go_at_call 52; (with_reducible refine (laws_toPoint _ b _ (Ty.at_more HV1.out mC) Hs1.out).mono ?_); rintro e w17 ⟨t1, rfl, b17, Ft1⟩; obtain ⟨t1za1, t1zn1, t1zc1, t1za2, t1zn2, t1zc2, t1za4, t1zn4, t1zc4, t1za5, t1zn5, t1zc5, rfl⟩ := sh_Point (Ty.fresh_at Ft1)) | (go_at_call 54; (with_reducible refine (laws_eqPoint _ _ b _ (Ty.at_more (Ty.fresh_at Fx1) mC) (Ty.at_more (Ty.fresh_at Ft1) (Turns.more (by ((repeat (first | (with_reducible apply Turns.drew) | (with_reducible apply Turns.drewN) | (with_reducible apply Turns.alloc))); exact Turns.refl _ _)))) Hs1.out).mono ?_); rintro e w18 ⟨rfl, b18⟩))
  clear RHB
  clear RHBx0
  clear RHBx1
  clear RHBx2
  clear RHBx3
  have HXa18 : Hid (More (((((W.alloc (.cells #[.bool a.1.1.1, .slice s0a1 s0n1 s0c1, .slice s0a2 s0n2 s0c2, .bool a.2.1.1, .slice s0a4 s0n4 s0c4, .slice s0a5 s0n5 s0c5] 82)).alloc (.cells #[.bool b.1.1.1, .slice s1a1 s1n1 s1c1, .slice s1a2 s1n2 s1c2, .bool b.2.1.1, .slice s1a4 s1n4 s1c4, .slice s1a5 s1n5 s1c5] 82)).alloc (.cells #[.bool c.1.1.1, .slice s2a1 s2n1 s2c1, .slice s2a2 s2n2 s2c2, .bool c.2.1.1, .slice s2a4 s2n4 s2c4, .slice s2a5 s2n5 s2c5] 82)).alloc (.cells #[.bool d.1.1.1, .slice s3a1 s3n1 s3c1, .slice s3a2 s3n2 s3c2, .bool d.2.1.1, .slice s3a4 s3n4 s3c4, .slice s3a5 s3n5 s3c5] 82))) w18) := Lib.hid mC
  have HBw18 := HB _ HXa18.out
  have hsHB18_0 : W.heap.size < w18.heap.size := by have := (HXa18.out).size; simp at this; omega
  have hsHB18_1 : W.heap.size + 1 < w18.heap.size := by have := (HXa18.out).size; simp at this; omega
  have hsHB18_2 : W.heap.size + 2 < w18.heap.size := by have := (HXa18.out).size; simp at this; omega
  have hsHB18_3 : W.heap.size + 3 < w18.heap.size := by have := (HXa18.out).size; simp at this; omega
  try clear HBw17
  have HXx0_18 : Hid (More (w10.alloc (.cells #[.bool a.1.1.1, .slice x0za1 x0zn1 x0zc1, .slice x0za2 x0zn2 x0zc2, .bool a.2.1.1, .slice x0za4 x0zn4 x0zc4, .slice x0za5 x0zn5 x0zc5] 89)) w18) := Lib.hid mC
  have HBx0w18 := HBx0 _ HXx0_18.out
  have hsHBx018_0 : w10.heap.size < w18.heap.size := by have := (HXx0_18.out).size; simp at this; omega
  try clear HBx0w17
  have HXx1_18 : Hid (More (w11.alloc (.cells #[.bool b.1.1.1, .slice x1za1 x1zn1 x1zc1, .slice x1za2 x1zn2 x1zc2, .bool b.2.1.1, .slice x1za4 x1zn4 x1zc4, .slice x1za5 x1zn5 x1zc5] 89)) w18) := Lib.hid mC
  have HBx1w18 := HBx1 _ HXx1_18.out
  have hsHBx118_0 : w11.heap.size < w18.heap.size := by have := (HXx1_18.out).size; simp at this; omega
  try clear HBx1w17
  have HXx2_18 : Hid (More (w12.alloc (.cells #[.bool c.1.1.1, .slice x2za1 x2zn1 x2zc1, .slice x2za2 x2zn2 x2zc2, .bool c.2.1.1, .slice x2za4 x2zn4 x2zc4, .slice x2za5 x2zn5 x2zc5] 89)) w18) := Lib.hid mC
  have HBx2w18 := HBx2 _ HXx2_18.out
  have hsHBx218_0 : w12.heap.size < w18.heap.size := by have := (HXx2_18.out).size; simp at this; omega
  try clear HBx2w17
  have HXx3_18 : Hid (More (w13.alloc (.cells #[.bool d.1.1.1, .slice x3za1 x3zn1 x3zc1, .slice x3za2 x3zn2 x3zc2, .bool d.2.1.1, .slice x3za4 x3zn4 x3zc4, .slice x3za5 x3zn5 x3zc5] 89)) w18) := Lib.hid mC
  have HBx3w18 := HBx3 _ HXx3_18.out
  have hsHBx318_0 : w13.heap.size < w18.heap.size := by have := (HXx3_18.out).size; simp at this; omega
  try clear HBx3w17
  go_wp2_with fail
  have RHB := fun (w' : World) (h : More w18 w') => HB w' (More.trans HXa18.out h)
  clear HBw18
  have RHBx0 := fun (w' : World) (h : More w18 w') => HBx0 w' (More.trans HXx0_18.out h)
  clear HBx0w18
  have RHBx1 := fun (w' : World) (h : More w18 w') => HBx1 w' (More.trans HXx1_18.out h)
  clear HBx1w18
  have RHBx2 := fun (w' : World) (h : More w18 w') => HBx2 w' (More.trans HXx2_18.out h)
  clear HBx2w18
  have RHBx3 := fun (w' : World) (h : More w18 w') => HBx3 w' (More.trans HXx3_18.out h)
  clear HBx3w18
  go_region_held3 (fun w' => More w18 w') (first | exact More.refl _ | exact mC) (first | (go_at_call 52; (with_reducible refine (laws_toPoint _ c _ (Ty.at_more HV2.out mC) Hs2.out).mono ?_); rintro e w19 ⟨t2, rfl, b19, Ft2⟩; obtain ⟨t2za1, t2zn1, t2zc1, t2za2, t2zn2, t2zc2, t2za4, t2zn4, t2zc4, t2za5, t2zn5, t2zc5, rfl⟩ := sh_Point (Ty.fresh_at Ft2)) | (go_at_call 54; (with_reducible refine (laws_eqPoint _ _ c _ (Ty.at_more (Ty.fresh_at Fx2) mC) (Ty.at_more (Ty.fresh_at Ft2) (Turns.more (by ((repeat (first | (with_reducible apply Turns.drew) | (with_reducible apply Turns.drewN) | (with_reducible apply Turns.alloc))); exact Turns.refl _ _)))) Hs2.out).mono ?_); rintro e w20 ⟨rfl, b20⟩))
  clear RHB
  clear RHBx0
  clear RHBx1
  clear RHBx2
  clear RHBx3
  have HXa20 : Hid (More (((((W.alloc (.cells #[.bool a.1.1.1, .slice s0a1 s0n1 s0c1, .slice s0a2 s0n2 s0c2, .bool a.2.1.1, .slice s0a4 s0n4 s0c4, .slice s0a5 s0n5 s0c5] 82)).alloc (.cells #[.bool b.1.1.1, .slice s1a1 s1n1 s1c1, .slice s1a2 s1n2 s1c2, .bool b.2.1.1, .slice s1a4 s1n4 s1c4, .slice s1a5 s1n5 s1c5] 82)).alloc (.cells #[.bool c.1.1.1, .slice s2a1 s2n1 s2c1, .slice s2a2 s2n2 s2c2, .bool c.2.1.1, .slice s2a4 s2n4 s2c4, .slice s2a5 s2n5 s2c5] 82)).alloc (.cells #[.bool d.1.1.1, .slice s3a1 s3n1 s3c1, .slice s3a2 s3n2 s3c2, .bool d.2.1.1, .slice s3a4 s3n4 s3c4, .slice s3a5 s3n5 s3c5] 82))) w20) := Lib.hid mC
  have HBw20 := HB _ HXa20.out
  have hsHB20_0 : W.heap.size < w20.heap.size := by have := (HXa20.out).size; simp at this; omega
  have hsHB20_1 : W.heap.size + 1 < w20.heap.size := by have := (HXa20.out).size; simp at this; omega
  have hsHB20_2 : W.heap.size + 2 < w20.heap.size := by have := (HXa20.out).size; simp at this; omega
  have hsHB20_3 : W.heap.size + 3 < w20.heap.size := by have := (HXa20.out).size; simp at this; omega
  try clear HBw19
  have HXx0_20 : Hid (More (w10.alloc (.cells #[.bool a.1.1.1, .slice x0za1 x0zn1 x0zc1, .slice x0za2 x0zn2 x0zc2, .bool a.2.1.1, .slice x0za4 x0zn4 x0zc4, .slice x0za5 x0zn5 x0zc5] 89)) w20) := Lib.hid mC
  have HBx0w20 := HBx0 _ HXx0_20.out
  have hsHBx020_0 : w10.heap.size < w20.heap.size := by have := (HXx0_20.out).size; simp at this; omega
  try clear HBx0w19
  have HXx1_20 : Hid (More (w11.alloc (.cells #[.bool b.1.1.1, .slice x1za1 x1zn1 x1zc1, .slice x1za2 x1zn2 x1zc2, .bool b.2.1.1, .slice x1za4 x1zn4 x1zc4, .slice x1za5 x1zn5 x1zc5] 89)) w20) := Lib.hid mC
  have HBx1w20 := HBx1 _ HXx1_20.out
  have hsHBx120_0 : w11.heap.size < w20.heap.size := by have := (HXx1_20.out).size; simp at this; omega
  try clear HBx1w19
  have HXx2_20 : Hid (More (w12.alloc (.cells #[.bool c.1.1.1, .slice x2za1 x2zn1 x2zc1, .slice x2za2 x2zn2 x2zc2, .bool c.2.1.1, .slice x2za4 x2zn4 x2zc4, .slice x2za5 x2zn5 x2zc5] 89)) w20) := Lib.hid mC
  have HBx2w20 := HBx2 _ HXx2_20.out
  have hsHBx220_0 : w12.heap.size < w20.heap.size := by have := (HXx2_20.out).size; simp at this; omega
  try clear HBx2w19
  have HXx3_20 : Hid (More (w13.alloc (.cells #[.bool d.1.1.1, .slice x3za1 x3zn1 x3zc1, .slice x3za2 x3zn2 x3zc2, .bool d.2.1.1, .slice x3za4 x3zn4 x3zc4, .slice x3za5 x3zn5 x3zc5] 89)) w20) := Lib.hid mC
  have HBx3w20 := HBx3 _ HXx3_20.out
  have hsHBx320_0 : w13.heap.size < w20.heap.size := by have := (HXx3_20.out).size; simp at this; omega
  try clear HBx3w19
  go_wp2_with fail
  have RHB := fun (w' : World) (h : More w20 w') => HB w' (More.trans HXa20.out h)
  clear HBw20
  have RHBx0 := fun (w' : World) (h : More w20 w') => HBx0 w' (More.trans HXx0_20.out h)
  clear HBx0w20
  have RHBx1 := fun (w' : World) (h : More w20 w') => HBx1 w' (More.trans HXx1_20.out h)
  clear HBx1w20
  have RHBx2 := fun (w' : World) (h : More w20 w') => HBx2 w' (More.trans HXx2_20.out h)
  clear HBx2w20
  have RHBx3 := fun (w' : World) (h : More w20 w') => HBx3 w' (More.trans HXx3_20.out h)
  clear HBx3w20
  go_region_held3 (fun w' => More w20 w') (first | exact More.refl _ | exact mC) (first | (go_at_call 52; (with_reducible refine (laws_toPoint _ d _ (Ty.at_more HV3.out mC) Hs3.out).mono ?_); rintro e w21 ⟨t3, rfl, b21, Ft3⟩; obtain ⟨t3za1, t3zn1, t3zc1, t3za2, t3zn2, t3zc2, t3za4, t3zn4, t3zc4, t3za5, t3zn5, t3zc5, rfl⟩ := sh_Point (Ty.fresh_at Ft3)) | (go_at_call 54; (with_reducible refine (laws_eqPoint _ _ d _ (Ty.at_more (Ty.fresh_at Fx3) mC) (Ty.at_more (Ty.fresh_at Ft3) (Turns.more (by ((repeat (first | (with_reducible apply Turns.drew) | (with_reducible apply Turns.drewN) | (with_reducible apply Turns.alloc))); exact Turns.refl _ _)))) Hs3.out).mono ?_); rintro e w22 ⟨rfl, b22⟩))
  clear RHB
  clear RHBx0
  clear RHBx1
  clear RHBx2
  clear RHBx3
  have HXa22 : Hid (More (((((W.alloc (.cells #[.bool a.1.1.1, .slice s0a1 s0n1 s0c1, .slice s0a2 s0n2 s0c2, .bool a.2.1.1, .slice s0a4 s0n4 s0c4, .slice s0a5 s0n5 s0c5] 82)).alloc (.cells #[.bool b.1.1.1, .slice s1a1 s1n1 s1c1, .slice s1a2 s1n2 s1c2, .bool b.2.1.1, .slice s1a4 s1n4 s1c4, .slice s1a5 s1n5 s1c5] 82)).alloc (.cells #[.bool c.1.1.1, .slice s2a1 s2n1 s2c1, .slice s2a2 s2n2 s2c2, .bool c.2.1.1, .slice s2a4 s2n4 s2c4, .slice s2a5 s2n5 s2c5] 82)).alloc (.cells #[.bool d.1.1.1, .slice s3a1 s3n1 s3c1, .slice s3a2 s3n2 s3c2, .bool d.2.1.1, .slice s3a4 s3n4 s3c4, .slice s3a5 s3n5 s3c5] 82))) w22) := Lib.hid mC
  have HBw22 := HB _ HXa22.out
  have hsHB22_0 : W.heap.size < w22.heap.size := by have := (HXa22.out).size; simp at this; omega
  have hsHB22_1 : W.heap.size + 1 < w22.heap.size := by have := (HXa22.out).size; simp at this; omega
  have hsHB22_2 : W.heap.size + 2 < w22.heap.size := by have := (HXa22.out).size; simp at this; omega
  have hsHB22_3 : W.heap.size + 3 < w22.heap.size := by have := (HXa22.out).size; simp at this; omega
  try clear HBw21
  have HXx0_22 : Hid (More (w10.alloc (.cells #[.bool a.1.1.1, .slice x0za1 x0zn1 x0zc1, .slice x0za2 x0zn2 x0zc2, .bool a.2.1.1, .slice x0za4 x0zn4 x0zc4, .slice x0za5 x0zn5 x0zc5] 89)) w22) := Lib.hid mC
  have HBx0w22 := HBx0 _ HXx0_22.out
  have hsHBx022_0 : w10.heap.size < w22.heap.size := by have := (HXx0_22.out).size; simp at this; omega
  try clear HBx0w21
  have HXx1_22 : Hid (More (w11.alloc (.cells #[.bool b.1.1.1, .slice x1za1 x1zn1 x1zc1, .slice x1za2 x1zn2 x1zc2, .bool b.2.1.1, .slice x1za4 x1zn4 x1zc4, .slice x1za5 x1zn5 x1zc5] 89)) w22) := Lib.hid mC
  have HBx1w22 := HBx1 _ HXx1_22.out
  have hsHBx122_0 : w11.heap.size < w22.heap.size := by have := (HXx1_22.out).size; simp at this; omega
  try clear HBx1w21
  have HXx2_22 : Hid (More (w12.alloc (.cells #[.bool c.1.1.1, .slice x2za1 x2zn1 x2zc1, .slice x2za2 x2zn2 x2zc2, .bool c.2.1.1, .slice x2za4 x2zn4 x2zc4, .slice x2za5 x2zn5 x2zc5] 89)) w22) := Lib.hid mC
  have HBx2w22 := HBx2 _ HXx2_22.out
  have hsHBx222_0 : w12.heap.size < w22.heap.size := by have := (HXx2_22.out).size; simp at this; omega
  try clear HBx2w21
  have HXx3_22 : Hid (More (w13.alloc (.cells #[.bool d.1.1.1, .slice x3za1 x3zn1 x3zc1, .slice x3za2 x3zn2 x3zc2, .bool d.2.1.1, .slice x3za4 x3zn4 x3zc4, .slice x3za5 x3zn5 x3zc5] 89)) w22) := Lib.hid mC
  have HBx3w22 := HBx3 _ HXx3_22.out
  have hsHBx322_0 : w13.heap.size < w22.heap.size := by have := (HXx3_22.out).size; simp at this; omega
  try clear HBx3w21
  go_wp2_with fail
  go_ret
  exact ⟨rfl, mC⟩
end Go.Proofs.Ytkhcblheekfdmaa
