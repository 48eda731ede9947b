/- FnExactCellSide returns true, for every input. -/
import Derived.Test.YtnndjbomfcacfaaCsl
import Derived.Test.YtnndjbomfcacfaaGSzS
import Derived.Test.YtnndjbomfcacfaaGToS
import Derived.Test.YtnndjbomfcacfaaGEqS
import Derived.Test.YtnndjbomfcacfaaMkCell
import Derived.Test.YtnndjbomfcacfaaGHelp
import Derived.Test.YtnndjbomfcacfaaGMk
import Derived.Test.YtnndjbomfcacfaaLdm
import Derived.Test.YtnndjbomfcacfaaCsrA
import Derived.Test.YtnndjbomfcacfaaCsrB
import Derived.Test.YtnndjbomfcacfaaMan
import Derived.Test.YtnndjbomfcacfaaGCut
import Derived.Deep.RegionHeld3
namespace Go.Proofs.Ytnndjbomfcacfaa
open Go.RowKit
set_option maxRecDepth 8000 in
set_option maxHeartbeats 40000000 in
theorem cs_bad0 {W : World} (ca0 : Array Value) (x : QCell) (hv0 : tCell.at W ca0.toList x) (ca1 : Array Value) (p : QR) (hv1 : tRat.at W ca1.toList p) (hn0 : ¬ ((wCell x : Nat) : Int) ≤ 1048576) :
    Calls Try.prog 4 #[.agg ca0, .agg ca1] W fun e w' => e = .returned (.bool true) ∧ More W w' := by
 obtain ⟨s0a1, s0n1, s0c1, s0a2, s0n2, s0c2, s0a4, s0n4, s0c4, s0a5, s0n5, s0c5, s0a7, s0n7, s0c7, s0a8, s0n8, s0c8, s0a10, s0n10, s0c10, s0a11, s0n11, s0c11, s0a13, s0n13, s0c13, s0a14, s0n14, s0c14, s0a16, s0n16, s0c16, s0a17, s0n17, s0c17, es0⟩ := sh_Cell hv0
 rw [es0] at hv0
 obtain rfl := arr_of es0
 clear es0
 have HV0 := Lib.hid hv0; clear hv0
 obtain ⟨s1a1, s1n1, s1c1, s1a2, s1n2, s1c2, es1⟩ := sh_Rat hv1
 rw [es1] at hv1
 obtain rfl := arr_of es1
 clear es1
 have HV1 := Lib.hid hv1; clear hv1
 have Hbad := Lib.hid hn0; clear hn0
 have HBa0 : ∀ w', More ((W.alloc (.cells #[.bool x.1.1.1, .slice s0a1 s0n1 s0c1, .slice s0a2 s0n2 s0c2, .bool x.2.1.1.1, .slice s0a4 s0n4 s0c4, .slice s0a5 s0n5 s0c5, .bool x.2.2.1.1.1, .slice s0a7 s0n7 s0c7, .slice s0a8 s0n8 s0c8, .bool x.2.2.2.1.1.1, .slice s0a10 s0n10 s0c10, .slice s0a11 s0n11 s0c11, .bool x.2.2.2.2.1.1.1, .slice s0a13 s0n13 s0c13, .slice s0a14 s0n14 s0c14, .bool x.2.2.2.2.2.1.1, .slice s0a16 s0n16 s0c16, .slice s0a17 s0n17 s0c17] 50)).alloc (.cells #[.bool p.1.1, .slice s1a1 s1n1 s1c1, .slice s1a2 s1n2 s1c2] 48)) w' → w'.rangeAt (W.heap.size) 0 [.bool x.1.1.1, .slice s0a1 s0n1 s0c1, .slice s0a2 s0n2 s0c2, .bool x.2.1.1.1, .slice s0a4 s0n4 s0c4, .slice s0a5 s0n5 s0c5, .bool x.2.2.1.1.1, .slice s0a7 s0n7 s0c7, .slice s0a8 s0n8 s0c8, .bool x.2.2.2.1.1.1, .slice s0a10 s0n10 s0c10, .slice s0a11 s0n11 s0c11, .bool x.2.2.2.2.1.1.1, .slice s0a13 s0n13 s0c13, .slice s0a14 s0n14 s0c14, .bool x.2.2.2.2.2.1.1, .slice s0a16 s0n16 s0c16, .slice s0a17 s0n17 s0c17] := fun w' h => box_range (by simp) (More.un h)
 have HBa0S := Lib.hid (fun (w' : World) (h : More ((W.alloc (.cells #[.bool x.1.1.1, .slice s0a1 s0n1 s0c1, .slice s0a2 s0n2 s0c2, .bool x.2.1.1.1, .slice s0a4 s0n4 s0c4, .slice s0a5 s0n5 s0c5, .bool x.2.2.1.1.1, .slice s0a7 s0n7 s0c7, .slice s0a8 s0n8 s0c8, .bool x.2.2.2.1.1.1, .slice s0a10 s0n10 s0c10, .slice s0a11 s0n11 s0c11, .bool x.2.2.2.2.1.1.1, .slice s0a13 s0n13 s0c13, .slice s0a14 s0n14 s0c14, .bool x.2.2.2.2.2.1.1, .slice s0a16 s0n16 s0c16, .slice s0a17 s0n17 s0c17] 50)).alloc (.cells #[.bool p.1.1, .slice s1a1 s1n1 s1c1, .slice s1a2 s1n2 s1c2] 48)) w') => (by have := More.size h; simp at this; omega : W.heap.size < w'.heap.size))
 have HBa1 : ∀ w', More ((W.alloc (.cells #[.bool x.1.1.1, .slice s0a1 s0n1 s0c1, .slice s0a2 s0n2 s0c2, .bool x.2.1.1.1, .slice s0a4 s0n4 s0c4, .slice s0a5 s0n5 s0c5, .bool x.2.2.1.1.1, .slice s0a7 s0n7 s0c7, .slice s0a8 s0n8 s0c8, .bool x.2.2.2.1.1.1, .slice s0a10 s0n10 s0c10, .slice s0a11 s0n11 s0c11, .bool x.2.2.2.2.1.1.1, .slice s0a13 s0n13 s0c13, .slice s0a14 s0n14 s0c14, .bool x.2.2.2.2.2.1.1, .slice s0a16 s0n16 s0c16, .slice s0a17 s0n17 s0c17] 50)).alloc (.cells #[.bool p.1.1, .slice s1a1 s1n1 s1c1, .slice s1a2 s1n2 s1c2] 48)) w' → w'.cell? ⟨W.heap.size + 1, 0, none⟩ = some (.bool p.1.1) ∧ w'.cell? ⟨W.heap.size + 1, 1, none⟩ = some (.slice s1a1 s1n1 s1c1) ∧ w'.cell? ⟨W.heap.size + 1, 2, none⟩ = some (.slice s1a2 s1n2 s1c2) := fun w' h => ⟨box_new (by simp) h 0, box_new (by simp) h 1, box_new (by simp) h 2⟩
 have HBa1S := Lib.hid (fun (w' : World) (h : More ((W.alloc (.cells #[.bool x.1.1.1, .slice s0a1 s0n1 s0c1, .slice s0a2 s0n2 s0c2, .bool x.2.1.1.1, .slice s0a4 s0n4 s0c4, .slice s0a5 s0n5 s0c5, .bool x.2.2.1.1.1, .slice s0a7 s0n7 s0c7, .slice s0a8 s0n8 s0c8, .bool x.2.2.2.1.1.1, .slice s0a10 s0n10 s0c10, .slice s0a11 s0n11 s0c11, .bool x.2.2.2.2.1.1.1, .slice s0a13 s0n13 s0c13, .slice s0a14 s0n14 s0c14, .bool x.2.2.2.2.2.1.1, .slice s0a16 s0n16 s0c16, .slice s0a17 s0n17 s0c17] 50)).alloc (.cells #[.bool p.1.1, .slice s1a1 s1n1 s1c1, .slice s1a2 s1n2 s1c2] 48)) w') => (by have := More.size h; simp at this; omega : W.heap.size + 1 < w'.heap.size))
 go_enter Try.func4, Try.ntmps4
 go_wp2_with (first | (refine wpList_load_mid rfl _ _ rfl (W.heap.size) 0 rfl _ _ (HBa0 _ mC) Try.underlying50 rfl (by kernel_rfl) ?_))
 refine (laws_szCell _ x _ _ (Ty.at_more HV0.out mC) (by decide) (by decide)).mono ?_
 rintro e w1 ⟨rfl, b1⟩
 have HBa0_1 := HBa0 w1 mC
 have HBa0s1 : W.heap.size < w1.heap.size := HBa0S.out _ mC
 have HBa1_1 := HBa1 w1 mC
 have HBa1s1 : W.heap.size + 1 < w1.heap.size := HBa1S.out _ mC
 rw [szI_neg (by have := Hbad.out; omega)]
 go_wp2_with (first | (refine wpList_load_mid rfl _ _ rfl (W.heap.size) 0 rfl _ _ (HBa0 _ mC) Try.underlying50 rfl (by kernel_rfl) ?_))
 go_ret
 exact ⟨rfl, mC⟩
set_option maxRecDepth 8000 in
set_option maxHeartbeats 40000000 in
theorem cs_bad1 {W : World} (ca0 : Array Value) (x : QCell) (hv0 : tCell.at W ca0.toList x) (ca1 : Array Value) (p : QR) (hv1 : tRat.at W ca1.toList p) (hn0 : ((wCell x : Nat) : Int) ≤ 1048576) (hn1 : ¬ ((wRat p : Nat) : Int) ≤ 1048576 - (wCell x : Nat)) :
    Calls Try.prog 4 #[.agg ca0, .agg ca1] W fun e w' => e = .returned (.bool true) ∧ More W w' := by
 obtain ⟨s0a1, s0n1, s0c1, s0a2, s0n2, s0c2, s0a4, s0n4, s0c4, s0a5, s0n5, s0c5, s0a7, s0n7, s0c7, s0a8, s0n8, s0c8, s0a10, s0n10, s0c10, s0a11, s0n11, s0c11, s0a13, s0n13, s0c13, s0a14, s0n14, s0c14, s0a16, s0n16, s0c16, s0a17, s0n17, s0c17, es0⟩ := sh_Cell hv0
 rw [es0] at hv0
 obtain rfl := arr_of es0
 clear es0
 have HV0 := Lib.hid hv0; clear hv0
 obtain ⟨s1a1, s1n1, s1c1, s1a2, s1n2, s1c2, es1⟩ := sh_Rat hv1
 rw [es1] at hv1
 obtain rfl := arr_of es1
 clear es1
 have HV1 := Lib.hid hv1; clear hv1
 have Hbad := Lib.hid hn1; clear hn1
 have Hn0 := Lib.hid hn0; clear hn0
 have HBa0 : ∀ w', More ((W.alloc (.cells #[.bool x.1.1.1, .slice s0a1 s0n1 s0c1, .slice s0a2 s0n2 s0c2, .bool x.2.1.1.1, .slice s0a4 s0n4 s0c4, .slice s0a5 s0n5 s0c5, .bool x.2.2.1.1.1, .slice s0a7 s0n7 s0c7, .slice s0a8 s0n8 s0c8, .bool x.2.2.2.1.1.1, .slice s0a10 s0n10 s0c10, .slice s0a11 s0n11 s0c11, .bool x.2.2.2.2.1.1.1, .slice s0a13 s0n13 s0c13, .slice s0a14 s0n14 s0c14, .bool x.2.2.2.2.2.1.1, .slice s0a16 s0n16 s0c16, .slice s0a17 s0n17 s0c17] 50)).alloc (.cells #[.bool p.1.1, .slice s1a1 s1n1 s1c1, .slice s1a2 s1n2 s1c2] 48)) w' → w'.rangeAt (W.heap.size) 0 [.bool x.1.1.1, .slice s0a1 s0n1 s0c1, .slice s0a2 s0n2 s0c2, .bool x.2.1.1.1, .slice s0a4 s0n4 s0c4, .slice s0a5 s0n5 s0c5, .bool x.2.2.1.1.1, .slice s0a7 s0n7 s0c7, .slice s0a8 s0n8 s0c8, .bool x.2.2.2.1.1.1, .slice s0a10 s0n10 s0c10, .slice s0a11 s0n11 s0c11, .bool x.2.2.2.2.1.1.1, .slice s0a13 s0n13 s0c13, .slice s0a14 s0n14 s0c14, .bool x.2.2.2.2.2.1.1, .slice s0a16 s0n16 s0c16, .slice s0a17 s0n17 s0c17] := fun w' h => box_range (by simp) (More.un h)
 have HBa0S := Lib.hid (fun (w' : World) (h : More ((W.alloc (.cells #[.bool x.1.1.1, .slice s0a1 s0n1 s0c1, .slice s0a2 s0n2 s0c2, .bool x.2.1.1.1, .slice s0a4 s0n4 s0c4, .slice s0a5 s0n5 s0c5, .bool x.2.2.1.1.1, .slice s0a7 s0n7 s0c7, .slice s0a8 s0n8 s0c8, .bool x.2.2.2.1.1.1, .slice s0a10 s0n10 s0c10, .slice s0a11 s0n11 s0c11, .bool x.2.2.2.2.1.1.1, .slice s0a13 s0n13 s0c13, .slice s0a14 s0n14 s0c14, .bool x.2.2.2.2.2.1.1, .slice s0a16 s0n16 s0c16, .slice s0a17 s0n17 s0c17] 50)).alloc (.cells #[.bool p.1.1, .slice s1a1 s1n1 s1c1, .slice s1a2 s1n2 s1c2] 48)) w') => (by have := More.size h; simp at this; omega : W.heap.size < w'.heap.size))
 have HBa1 : ∀ w', More ((W.alloc (.cells #[.bool x.1.1.1, .slice s0a1 s0n1 s0c1, .slice s0a2 s0n2 s0c2, .bool x.2.1.1.1, .slice s0a4 s0n4 s0c4, .slice s0a5 s0n5 s0c5, .bool x.2.2.1.1.1, .slice s0a7 s0n7 s0c7, .slice s0a8 s0n8 s0c8, .bool x.2.2.2.1.1.1, .slice s0a10 s0n10 s0c10, .slice s0a11 s0n11 s0c11, .bool x.2.2.2.2.1.1.1, .slice s0a13 s0n13 s0c13, .slice s0a14 s0n14 s0c14, .bool x.2.2.2.2.2.1.1, .slice s0a16 s0n16 s0c16, .slice s0a17 s0n17 s0c17] 50)).alloc (.cells #[.bool p.1.1, .slice s1a1 s1n1 s1c1, .slice s1a2 s1n2 s1c2] 48)) w' → w'.cell? ⟨W.heap.size + 1, 0, none⟩ = some (.bool p.1.1) ∧ w'.cell? ⟨W.heap.size + 1, 1, none⟩ = some (.slice s1a1 s1n1 s1c1) ∧ w'.cell? ⟨W.heap.size + 1, 2, none⟩ = some (.slice s1a2 s1n2 s1c2) := fun w' h => ⟨box_new (by simp) h 0, box_new (by simp) h 1, box_new (by simp) h 2⟩
 have HBa1S := Lib.hid (fun (w' : World) (h : More ((W.alloc (.cells #[.bool x.1.1.1, .slice s0a1 s0n1 s0c1, .slice s0a2 s0n2 s0c2, .bool x.2.1.1.1, .slice s0a4 s0n4 s0c4, .slice s0a5 s0n5 s0c5, .bool x.2.2.1.1.1, .slice s0a7 s0n7 s0c7, .slice s0a8 s0n8 s0c8, .bool x.2.2.2.1.1.1, .slice s0a10 s0n10 s0c10, .slice s0a11 s0n11 s0c11, .bool x.2.2.2.2.1.1.1, .slice s0a13 s0n13 s0c13, .slice s0a14 s0n14 s0c14, .bool x.2.2.2.2.2.1.1, .slice s0a16 s0n16 s0c16, .slice s0a17 s0n17 s0c17] 50)).alloc (.cells #[.bool p.1.1, .slice s1a1 s1n1 s1c1, .slice s1a2 s1n2 s1c2] 48)) w') => (by have := More.size h; simp at this; omega : W.heap.size + 1 < w'.heap.size))
 go_enter Try.func4, Try.ntmps4
 go_wp2_with (first | (refine wpList_load_mid rfl _ _ rfl (W.heap.size) 0 rfl _ _ (HBa0 _ mC) Try.underlying50 rfl (by kernel_rfl) ?_))
 refine (laws_szCell _ x _ _ (Ty.at_more HV0.out mC) (by decide) (by decide)).mono ?_
 rintro e w1 ⟨rfl, b1⟩
 have HBa0_1 := HBa0 w1 mC
 have HBa0s1 : W.heap.size < w1.heap.size := HBa0S.out _ mC
 have HBa1_1 := HBa1 w1 mC
 have HBa1s1 : W.heap.size + 1 < w1.heap.size := HBa1S.out _ mC
 rw [szI_pos (by have := Hn0.out; omega)]
 have z0 : 0 ≤ (1048576 : Int) - (wCell x : Nat) := by have := Hn0.out; omega
 go_wp2_with (first | (refine wpList_load_mid rfl _ _ rfl (W.heap.size) 0 rfl _ _ (HBa0 _ mC) Try.underlying50 rfl (by kernel_rfl) ?_))
 refine (laws_szRat _ p _ _ (Ty.at_more HV1.out mC) (by have := Hn0.out; omega) (by omega)).mono ?_
 rintro e w2 ⟨rfl, b2⟩
 have HBa0_2 := HBa0 w2 mC
 have HBa0s2 : W.heap.size < w2.heap.size := HBa0S.out _ mC
 try clear HBa0_1
 try clear HBa0s1
 have HBa1_2 := HBa1 w2 mC
 have HBa1s2 : W.heap.size + 1 < w2.heap.size := HBa1S.out _ mC
 try clear HBa1_1
 try clear HBa1s1
 rw [szI_neg (by have := Hbad.out; omega)]
 go_wp2_with (first | (refine wpList_load_mid rfl _ _ rfl (W.heap.size) 0 rfl _ _ (HBa0 _ mC) Try.underlying50 rfl (by kernel_rfl) ?_))
 go_ret
 exact ⟨rfl, mC⟩
set_option maxRecDepth 8000 in
set_option maxHeartbeats 40000000 in
theorem cs_good {W : World} (ca0 : Array Value) (x : QCell) (hv0 : tCell.at W ca0.toList x) (ca1 : Array Value) (p : QR) (hv1 : tRat.at W ca1.toList p) (hn0 : ((wCell x : Nat) : Int) ≤ 1048576) (hn1 : ((wRat p : Nat) : Int) ≤ 1048576 - (wCell x : Nat)) :
    Calls Try.prog 4 #[.agg ca0, .agg ca1] W fun e w' => e = .returned (.bool true) ∧ More W w' := by
 obtain ⟨s0a1, s0n1, s0c1, s0a2, s0n2, s0c2, s0a4, s0n4, s0c4, s0a5, s0n5, s0c5, s0a7, s0n7, s0c7, s0a8, s0n8, s0c8, s0a10, s0n10, s0c10, s0a11, s0n11, s0c11, s0a13, s0n13, s0c13, s0a14, s0n14, s0c14, s0a16, s0n16, s0c16, s0a17, s0n17, s0c17, es0⟩ := sh_Cell hv0
 rw [es0] at hv0
 obtain rfl := arr_of es0
 clear es0
 have HV0 := Lib.hid hv0; clear hv0
 obtain ⟨s1a1, s1n1, s1c1, s1a2, s1n2, s1c2, es1⟩ := sh_Rat hv1
 rw [es1] at hv1
 obtain rfl := arr_of es1
 clear es1
 have HV1 := Lib.hid hv1; clear hv1
 have Hn0 := Lib.hid hn0
 have Hn1 := Lib.hid hn1
 have Hs0 : Hid (wCell x ≤ 1048576) := Lib.hid (by omega)
 have Hs1 : Hid (wRat p ≤ 1048576) := Lib.hid (by omega)
 clear hn0 hn1
 obtain ⟨r1, er1⟩ : ∃ r, r = (csF x p).1 := ⟨_, rfl⟩
 have ER1 := Lib.hid er1
 have HrL1 : Hid (wRat r1 ≤ 1048576) := Lib.hid (by rw [er1]; exact csF_w1 Hs0.out)
 clear er1
 have HrC1 : Hid (cRat r1 ≤ 8388608) := Lib.hid (by have h := cRat_le r1; have h2 := HrL1.out; omega)
 obtain ⟨r2, er2⟩ : ∃ r, r = (csF x p).2.1 := ⟨_, rfl⟩
 have ER2 := Lib.hid er2
 have HrL2 : Hid (wRat r2 ≤ 1048576) := Lib.hid (by rw [er2]; exact csF_w2 Hs0.out)
 clear er2
 have HrC2 : Hid (cRat r2 ≤ 8388608) := Lib.hid (by have h := cRat_le r2; have h2 := HrL2.out; omega)
 have HC0 : Hid (cCell x ≤ 8388608) := Lib.hid (by have h := cCell_le x; have h2 := Hs0.out; omega)
 have HC1 : Hid (cRat p ≤ 8388608) := Lib.hid (by have h := cRat_le p; have h2 := Hs1.out; omega)
 obtain ⟨f0, ef0⟩ : ∃ f, f = (csF x p).2.2 := ⟨_, rfl⟩
 have EF0 := Lib.hid ef0; clear ef0
 have HBa0 : ∀ w', More ((W.alloc (.cells #[.bool x.1.1.1, .slice s0a1 s0n1 s0c1, .slice s0a2 s0n2 s0c2, .bool x.2.1.1.1, .slice s0a4 s0n4 s0c4, .slice s0a5 s0n5 s0c5, .bool x.2.2.1.1.1, .slice s0a7 s0n7 s0c7, .slice s0a8 s0n8 s0c8, .bool x.2.2.2.1.1.1, .slice s0a10 s0n10 s0c10, .slice s0a11 s0n11 s0c11, .bool x.2.2.2.2.1.1.1, .slice s0a13 s0n13 s0c13, .slice s0a14 s0n14 s0c14, .bool x.2.2.2.2.2.1.1, .slice s0a16 s0n16 s0c16, .slice s0a17 s0n17 s0c17] 50)).alloc (.cells #[.bool p.1.1, .slice s1a1 s1n1 s1c1, .slice s1a2 s1n2 s1c2] 48)) w' → w'.rangeAt (W.heap.size) 0 [.bool x.1.1.1, .slice s0a1 s0n1 s0c1, .slice s0a2 s0n2 s0c2, .bool x.2.1.1.1, .slice s0a4 s0n4 s0c4, .slice s0a5 s0n5 s0c5, .bool x.2.2.1.1.1, .slice s0a7 s0n7 s0c7, .slice s0a8 s0n8 s0c8, .bool x.2.2.2.1.1.1, .slice s0a10 s0n10 s0c10, .slice s0a11 s0n11 s0c11, .bool x.2.2.2.2.1.1.1, .slice s0a13 s0n13 s0c13, .slice s0a14 s0n14 s0c14, .bool x.2.2.2.2.2.1.1, .slice s0a16 s0n16 s0c16, .slice s0a17 s0n17 s0c17] := fun w' h => box_range (by simp) (More.un h)
 have HBa0S := Lib.hid (fun (w' : World) (h : More ((W.alloc (.cells #[.bool x.1.1.1, .slice s0a1 s0n1 s0c1, .slice s0a2 s0n2 s0c2, .bool x.2.1.1.1, .slice s0a4 s0n4 s0c4, .slice s0a5 s0n5 s0c5, .bool x.2.2.1.1.1, .slice s0a7 s0n7 s0c7, .slice s0a8 s0n8 s0c8, .bool x.2.2.2.1.1.1, .slice s0a10 s0n10 s0c10, .slice s0a11 s0n11 s0c11, .bool x.2.2.2.2.1.1.1, .slice s0a13 s0n13 s0c13, .slice s0a14 s0n14 s0c14, .bool x.2.2.2.2.2.1.1, .slice s0a16 s0n16 s0c16, .slice s0a17 s0n17 s0c17] 50)).alloc (.cells #[.bool p.1.1, .slice s1a1 s1n1 s1c1, .slice s1a2 s1n2 s1c2] 48)) w') => (by have := More.size h; simp at this; omega : W.heap.size < w'.heap.size))
 have HBa1 : ∀ w', More ((W.alloc (.cells #[.bool x.1.1.1, .slice s0a1 s0n1 s0c1, .slice s0a2 s0n2 s0c2, .bool x.2.1.1.1, .slice s0a4 s0n4 s0c4, .slice s0a5 s0n5 s0c5, .bool x.2.2.1.1.1, .slice s0a7 s0n7 s0c7, .slice s0a8 s0n8 s0c8, .bool x.2.2.2.1.1.1, .slice s0a10 s0n10 s0c10, .slice s0a11 s0n11 s0c11, .bool x.2.2.2.2.1.1.1, .slice s0a13 s0n13 s0c13, .slice s0a14 s0n14 s0c14, .bool x.2.2.2.2.2.1.1, .slice s0a16 s0n16 s0c16, .slice s0a17 s0n17 s0c17] 50)).alloc (.cells #[.bool p.1.1, .slice s1a1 s1n1 s1c1, .slice s1a2 s1n2 s1c2] 48)) w' → w'.cell? ⟨W.heap.size + 1, 0, none⟩ = some (.bool p.1.1) ∧ w'.cell? ⟨W.heap.size + 1, 1, none⟩ = some (.slice s1a1 s1n1 s1c1) ∧ w'.cell? ⟨W.heap.size + 1, 2, none⟩ = some (.slice s1a2 s1n2 s1c2) := fun w' h => ⟨box_new (by simp) h 0, box_new (by simp) h 1, box_new (by simp) h 2⟩
 have HBa1S := Lib.hid (fun (w' : World) (h : More ((W.alloc (.cells #[.bool x.1.1.1, .slice s0a1 s0n1 s0c1, .slice s0a2 s0n2 s0c2, .bool x.2.1.1.1, .slice s0a4 s0n4 s0c4, .slice s0a5 s0n5 s0c5, .bool x.2.2.1.1.1, .slice s0a7 s0n7 s0c7, .slice s0a8 s0n8 s0c8, .bool x.2.2.2.1.1.1, .slice s0a10 s0n10 s0c10, .slice s0a11 s0n11 s0c11, .bool x.2.2.2.2.1.1.1, .slice s0a13 s0n13 s0c13, .slice s0a14 s0n14 s0c14, .bool x.2.2.2.2.2.1.1, .slice s0a16 s0n16 s0c16, .slice s0a17 s0n17 s0c17] 50)).alloc (.cells #[.bool p.1.1, .slice s1a1 s1n1 s1c1, .slice s1a2 s1n2 s1c2] 48)) w') => (by have := More.size h; simp at this; omega : W.heap.size + 1 < w'.heap.size))
 go_enter Try.func4, Try.ntmps4
 go_wp2_with (first | (refine wpList_load_mid rfl _ _ rfl (W.heap.size) 0 rfl _ _ (HBa0 _ mC) Try.underlying50 rfl (by kernel_rfl) ?_))
 refine (laws_szCell _ x _ _ (Ty.at_more HV0.out mC) (by decide) (by decide)).mono ?_
 rintro e w1 ⟨rfl, b1⟩
 have HBa0_1 := HBa0 w1 mC
 have HBa0s1 : W.heap.size < w1.heap.size := HBa0S.out _ mC
 have HBa1_1 := HBa1 w1 mC
 have HBa1s1 : W.heap.size + 1 < w1.heap.size := HBa1S.out _ mC
 rw [szI_pos (by have := Hn0.out; omega)]
 have z0 : 0 ≤ (1048576 : Int) - (wCell x : Nat) := by have := Hn0.out; omega
 go_wp2_with (first | (refine wpList_load_mid rfl _ _ rfl (W.heap.size) 0 rfl _ _ (HBa0 _ mC) Try.underlying50 rfl (by kernel_rfl) ?_))
 refine (laws_szRat _ p _ _ (Ty.at_more HV1.out mC) (by have := Hn0.out; omega) (by omega)).mono ?_
 rintro e w2 ⟨rfl, b2⟩
 have HBa0_2 := HBa0 w2 mC
 have HBa0s2 : W.heap.size < w2.heap.size := HBa0S.out _ mC
 try clear HBa0_1
 try clear HBa0s1
 have HBa1_2 := HBa1 w2 mC
 have HBa1s2 : W.heap.size + 1 < w2.heap.size := HBa1S.out _ mC
 try clear HBa1_1
 try clear HBa1s1
 rw [szI_pos (by have := Hn1.out; omega)]
 have z1 : 0 ≤ (1048576 : Int) - (wCell x : Nat) - (wRat p : Nat) := by have := Hn1.out; omega
 go_wp2_with (first | (refine wpList_load_mid rfl _ _ rfl (W.heap.size) 0 rfl _ _ (HBa0 _ mC) Try.underlying50 rfl (by kernel_rfl) ?_))
 clear HBa0_2
 clear HBa1_2
 go_cut [6, 7, 8] (fun s1 s2 sf wx => ∃ (p q : Nat) (ya1 : Option Addr) (yn1 yc1 : Nat) (yd1 : Option Addr) (ym1 ye1 : Nat) (ya2 : Option Addr) (yn2 yc2 : Nat) (yd2 : Option Addr) (ym2 ye2 : Nat), s1 = .pointer (some ⟨p, 0, none⟩) ∧ s2 = .pointer (some ⟨q, 0, none⟩) ∧ sf = .bool f0 ∧ Two w2 wx p q (.bool r1.1.1) (.slice ya1 yn1 yc1) (.slice yd1 ym1 ye1) r1 (.bool r2.1.1) (.slice ya2 yn2 yc2) (.slice yd2 ym2 ye2) r2)
 case first =>
  refine csrA w2 x p (W.heap.size) (W.heap.size + 1) s0a1 s0n1 s0c1 s0a2 s0n2 s0c2 s0a4 s0n4 s0c4 s0a5 s0n5 s0c5 s0a7 s0n7 s0c7 s0a8 s0n8 s0c8 s0a10 s0n10 s0c10 s0a11 s0n11 s0c11 s0a13 s0n13 s0c13 s0a14 s0n14 s0c14 s0a16 s0n16 s0c16 s0a17 s0n17 s0c17 s1a1 s1n1 s1c1 s1a2 s1n2 s1c2 r1 r2 f0 (Lib.hid (Ty.at_more HV0.out mC)) Hs0 (Lib.hid (Ty.at_more HV1.out mC)) Hs1 ER1 ER2 EF0 (fun w' h => HBa0 w' (More.trans (show More _ w2 from mC) h)) (fun w' h => HBa1 w' (More.trans (show More _ w2 from mC) h)) (fun _ _ _ _ _ h => h) (fun u30 u31 u32 u33 u34 u35 u36 u37 u38 P9 Q9 ya1 yn1 yc1 yd1 ym1 ye1 ya2 yn2 yc2 yd2 ym2 ye2 w' hT => ?_)
  go_wp2_with fail
  go_meet
  exact ⟨P9, Q9, ya1, yn1, yc1, yd1, ym1, ye1, ya2, yn2, yc2, yd2, ym2, ye2, rfl, rfl, rfl, hT⟩
 case rest =>
 as_aux_lemma =>
  rename World => w6
  obtain ⟨py, qy, ya1, yn1, yc1, yd1, ym1, ye1, ya2, yn2, yc2, yd2, ym2, ye2, rfl, rfl, rfl, hT⟩ := hcut
  obtain ⟨b6, hpy, hqy, hny, hBy1, hBy2, hFy⟩ := hT
  obtain ⟨_, _, f1, f2, n1, n2, _, l1, l2, _⟩ := hFy.out
  have Fy1 : tRat.fresh w2.heap.size w6 [.bool r1.1.1, .slice ya1 yn1 yc1, .slice yd1 ym1 ye1] r1 := ⟨_, f1, n1, l1⟩
  clear f1 n1 l1
  have Fy2 : tRat.fresh w2.heap.size w6 [.bool r2.1.1, .slice ya2 yn2 yc2, .slice yd2 ym2 ye2] r2 := ⟨_, f2, n2, l2⟩
  clear f2 n2 l2
  have HBa0_6 := HBa0 w6 mC
  have HBa0s6 : W.heap.size < w6.heap.size := HBa0S.out _ mC
  try clear HBa0_5
  try clear HBa0s5
  have HBa1_6 := HBa1 w6 mC
  have HBa1s6 : W.heap.size + 1 < w6.heap.size := HBa1S.out _ mC
  try clear HBa1_5
  try clear HBa1s5
  have HBy1 : ∀ w', More w6 w' → w'.cell? ⟨py, 0, none⟩ = some (.bool r1.1.1) ∧ w'.cell? ⟨py, 1, none⟩ = some (.slice ya1 yn1 yc1) ∧ w'.cell? ⟨py, 2, none⟩ = some (.slice yd1 ym1 ye1) := fun w' h => ⟨(hBy1.keep h).c0, (hBy1.keep h).c1, (hBy1.keep h).c2⟩
  have HBy1z := hBy1.lt
  have HBy1_6 := HBy1 w6 (More.refl _)
  have HBy1s6 := HBy1z
  have HBy2 : ∀ w', More w6 w' → w'.cell? ⟨qy, 0, none⟩ = some (.bool r2.1.1) ∧ w'.cell? ⟨qy, 1, none⟩ = some (.slice ya2 yn2 yc2) ∧ w'.cell? ⟨qy, 2, none⟩ = some (.slice yd2 ym2 ye2) := fun w' h => ⟨(hBy2.keep h).c0, (hBy2.keep h).c1, (hBy2.keep h).c2⟩
  have HBy2z := hBy2.lt
  have HBy2_6 := HBy2 w6 (More.refl _)
  have HBy2s6 := HBy2z
  go_wp2_with (first | (refine wpList_load_mid rfl _ _ rfl (W.heap.size) 0 rfl _ _ (HBa0 _ mC) Try.underlying50 rfl (by kernel_rfl) ?_))
  refine (laws_toCell _ x _ (Ty.at_more HV0.out mC) Hs0.out).mono ?_
  rintro e w7 ⟨x0, rfl, b7, bx0, X0, nx0, lx0⟩
  have HBa0ltx0 : ∀ k ∈ bx0, W.heap.size < k := fun k hk => Nat.lt_of_lt_of_le (HBa0S.out _ mC) (lx0 k hk)
  have HBa1ltx0 : ∀ k ∈ bx0, W.heap.size + 1 < k := fun k hk => Nat.lt_of_lt_of_le (HBa1S.out _ mC) (lx0 k hk)
  have HBy1ltx0 : ∀ k ∈ bx0, py < k := fun k hk => Nat.lt_of_lt_of_le HBy1z (Nat.le_trans (More.size (show More _ _ from mC)) (lx0 k hk))
  have HBy2ltx0 : ∀ k ∈ bx0, qy < k := fun k hk => Nat.lt_of_lt_of_le HBy2z (Nat.le_trans (More.size (show More _ _ from mC)) (lx0 k hk))
  obtain ⟨x0za1, x0zn1, x0zc1, x0za2, x0zn2, x0zc2, x0za4, x0zn4, x0zc4, x0za5, x0zn5, x0zc5, x0za7, x0zn7, x0zc7, x0za8, x0zn8, x0zc8, x0za10, x0zn10, x0zc10, x0za11, x0zn11, x0zc11, x0za13, x0zn13, x0zc13, x0za14, x0zn14, x0zc14, x0za16, x0zn16, x0zc16, x0za17, x0zn17, x0zc17, rfl⟩ := sh_Cell (Ty.rd_at (tCell.own_rd X0))
  have HBa0_7 := HBa0 w7 mC
  have HBa0s7 : W.heap.size < w7.heap.size := HBa0S.out _ mC
  try clear HBa0_6
  try clear HBa0s6
  have HBa1_7 := HBa1 w7 mC
  have HBa1s7 : W.heap.size + 1 < w7.heap.size := HBa1S.out _ mC
  try clear HBa1_6
  try clear HBa1s6
  have HBy1_7 := HBy1 w7 mC
  have HBy1s7 : py < w7.heap.size := Nat.lt_of_lt_of_le HBy1z (More.size (show More _ w7 from mC))
  try clear HBy1_6
  try clear HBy1s6
  have HBy2_7 := HBy2 w7 mC
  have HBy2s7 : qy < w7.heap.size := Nat.lt_of_lt_of_le HBy2z (More.size (show More _ w7 from mC))
  try clear HBy2_6
  try clear HBy2s6
  have HBx0 : ∀ w', More (w7.alloc (.cells #[.bool x.1.1.1, .slice x0za1 x0zn1 x0zc1, .slice x0za2 x0zn2 x0zc2, .bool x.2.1.1.1, .slice x0za4 x0zn4 x0zc4, .slice x0za5 x0zn5 x0zc5, .bool x.2.2.1.1.1, .slice x0za7 x0zn7 x0zc7, .slice x0za8 x0zn8 x0zc8, .bool x.2.2.2.1.1.1, .slice x0za10 x0zn10 x0zc10, .slice x0za11 x0zn11 x0zc11, .bool x.2.2.2.2.1.1.1, .slice x0za13 x0zn13 x0zc13, .slice x0za14 x0zn14 x0zc14, .bool x.2.2.2.2.2.1.1, .slice x0za16 x0zn16 x0zc16, .slice x0za17 x0zn17 x0zc17] 59)) w' → w'.rangeAt (w7.heap.size) 0 [.bool x.1.1.1, .slice x0za1 x0zn1 x0zc1, .slice x0za2 x0zn2 x0zc2, .bool x.2.1.1.1, .slice x0za4 x0zn4 x0zc4, .slice x0za5 x0zn5 x0zc5, .bool x.2.2.1.1.1, .slice x0za7 x0zn7 x0zc7, .slice x0za8 x0zn8 x0zc8, .bool x.2.2.2.1.1.1, .slice x0za10 x0zn10 x0zc10, .slice x0za11 x0zn11 x0zc11, .bool x.2.2.2.2.1.1.1, .slice x0za13 x0zn13 x0zc13, .slice x0za14 x0zn14 x0zc14, .bool x.2.2.2.2.2.1.1, .slice x0za16 x0zn16 x0zc16, .slice x0za17 x0zn17 x0zc17] := fun w' h => box_range (by simp) h
  have HBx0S := Lib.hid (fun (w' : World) (h : More (w7.alloc (.cells #[.bool x.1.1.1, .slice x0za1 x0zn1 x0zc1, .slice x0za2 x0zn2 x0zc2, .bool x.2.1.1.1, .slice x0za4 x0zn4 x0zc4, .slice x0za5 x0zn5 x0zc5, .bool x.2.2.1.1.1, .slice x0za7 x0zn7 x0zc7, .slice x0za8 x0zn8 x0zc8, .bool x.2.2.2.1.1.1, .slice x0za10 x0zn10 x0zc10, .slice x0za11 x0zn11 x0zc11, .bool x.2.2.2.2.1.1.1, .slice x0za13 x0zn13 x0zc13, .slice x0za14 x0zn14 x0zc14, .bool x.2.2.2.2.2.1.1, .slice x0za16 x0zn16 x0zc16, .slice x0za17 x0zn17 x0zc17] 59)) w') => (by have := More.size h; simp at this; omega : w7.heap.size < w'.heap.size))
  have HBx0gex0 : w7.heap.size ≤ w7.heap.size := by have := More.size (show More w7 w7 from mC); omega
  go_wp2_with (first | (refine wpList_load_mid rfl _ _ rfl (W.heap.size) 0 rfl _ _ (HBa0 _ mC) Try.underlying50 rfl (by kernel_rfl) ?_) | (refine wpList_load_mid rfl _ _ rfl (w7.heap.size) 0 rfl _ _ (HBx0 _ mC) Try.underlying59 rfl (by kernel_rfl) ?_))
  refine (laws_toRat _ p _ (Ty.at_more HV1.out mC) Hs1.out).mono ?_
  rintro e w8 ⟨x1, rfl, b8, bx1, X1, nx1, lx1⟩
  have HBa0ltx1 : ∀ k ∈ bx1, W.heap.size < k := fun k hk => Nat.lt_of_lt_of_le (HBa0S.out _ mC) (lx1 k hk)
  have HBa1ltx1 : ∀ k ∈ bx1, W.heap.size + 1 < k := fun k hk => Nat.lt_of_lt_of_le (HBa1S.out _ mC) (lx1 k hk)
  have HBy1ltx1 : ∀ k ∈ bx1, py < k := fun k hk => Nat.lt_of_lt_of_le HBy1z (Nat.le_trans (More.size (show More _ _ from mC)) (lx1 k hk))
  have HBy2ltx1 : ∀ k ∈ bx1, qy < k := fun k hk => Nat.lt_of_lt_of_le HBy2z (Nat.le_trans (More.size (show More _ _ from mC)) (lx1 k hk))
  have HBx0ltx1 : ∀ k ∈ bx1, w7.heap.size < k := fun k hk => Nat.lt_of_lt_of_le (HBx0S.out _ mC) (lx1 k hk)
  have lx1_x0 : ∀ k ∈ bx1, w7.heap.size ≤ k := fun k hk => Nat.le_trans (More.size (show More w7 _ from mC)) (lx1 k hk)
  obtain ⟨x1za1, x1zn1, x1zc1, x1za2, x1zn2, x1zc2, rfl⟩ := sh_Rat (Ty.rd_at (tRat.own_rd X1))
  have HBa0_8 := HBa0 w8 mC
  have HBa0s8 : W.heap.size < w8.heap.size := HBa0S.out _ mC
  try clear HBa0_7
  try clear HBa0s7
  have HBa1_8 := HBa1 w8 mC
  have HBa1s8 : W.heap.size + 1 < w8.heap.size := HBa1S.out _ mC
  try clear HBa1_7
  try clear HBa1s7
  have HBy1_8 := HBy1 w8 mC
  have HBy1s8 : py < w8.heap.size := Nat.lt_of_lt_of_le HBy1z (More.size (show More _ w8 from mC))
  try clear HBy1_7
  try clear HBy1s7
  have HBy2_8 := HBy2 w8 mC
  have HBy2s8 : qy < w8.heap.size := Nat.lt_of_lt_of_le HBy2z (More.size (show More _ w8 from mC))
  try clear HBy2_7
  try clear HBy2s7
  have HBx0_8 := HBx0 w8 mC
  have HBx0s8 : w7.heap.size < w8.heap.size := HBx0S.out _ mC
  try clear HBx0_7
  try clear HBx0s7
  have HBx1 : ∀ w', More (w8.alloc (.cells #[.bool p.1.1, .slice x1za1 x1zn1 x1zc1, .slice x1za2 x1zn2 x1zc2] 55)) w' → w'.cell? ⟨w8.heap.size, 0, none⟩ = some (.bool p.1.1) ∧ w'.cell? ⟨w8.heap.size, 1, none⟩ = some (.slice x1za1 x1zn1 x1zc1) ∧ w'.cell? ⟨w8.heap.size, 2, none⟩ = some (.slice x1za2 x1zn2 x1zc2) := fun w' h => ⟨box_new (by simp) h 0, box_new (by simp) h 1, box_new (by simp) h 2⟩
  have HBx1S := Lib.hid (fun (w' : World) (h : More (w8.alloc (.cells #[.bool p.1.1, .slice x1za1 x1zn1 x1zc1, .slice x1za2 x1zn2 x1zc2] 55)) w') => (by have := More.size h; simp at this; omega : w8.heap.size < w'.heap.size))
  have HBx1gex0 : w7.heap.size ≤ w8.heap.size := by have := More.size (show More w7 w8 from mC); omega
  have HBx1gex1 : w8.heap.size ≤ w8.heap.size := by have := More.size (show More w8 w8 from mC); omega
  go_wp2_with (first | (refine wpList_load_mid rfl _ _ rfl (W.heap.size) 0 rfl _ _ (HBa0 _ mC) Try.underlying50 rfl (by kernel_rfl) ?_) | (refine wpList_load_mid rfl _ _ rfl (w7.heap.size) 0 rfl _ _ (HBx0 _ mC) Try.underlying59 rfl (by kernel_rfl) ?_))
  as_aux_lemma =>
   refine (impl_CellSideL _ x _ p _ (Ty.at_more (Ty.rd_at (tCell.own_rd X0)) mC) Hs0.out (Ty.at_more (Ty.rd_at (tRat.own_rd X1)) mC) Hs1.out r1 r2 f0 ER1.out ER2.out EF0.out).mono ?_
   rintro e w9 ⟨ga1, gn1, gc1, gd1, gm1, ge1, ga2, gn2, gc2, gd2, gm2, ge2, rfl, b9, FP⟩
   obtain ⟨bg1, bg2, G1, G2, ng1, ng2, dj, lg1, lg2⟩ := FP
   have HBa0_9 := HBa0 w9 mC
   have HBa0s9 : W.heap.size < w9.heap.size := HBa0S.out _ mC
   try clear HBa0_8
   try clear HBa0s8
   have HBa1_9 := HBa1 w9 mC
   have HBa1s9 : W.heap.size + 1 < w9.heap.size := HBa1S.out _ mC
   try clear HBa1_8
   try clear HBa1s8
   have HBy1_9 := HBy1 w9 mC
   have HBy1s9 : py < w9.heap.size := Nat.lt_of_lt_of_le HBy1z (More.size (show More _ w9 from mC))
   try clear HBy1_8
   try clear HBy1s8
   have HBy2_9 := HBy2 w9 mC
   have HBy2s9 : qy < w9.heap.size := Nat.lt_of_lt_of_le HBy2z (More.size (show More _ w9 from mC))
   try clear HBy2_8
   try clear HBy2s8
   have HBx0_9 := HBx0 w9 mC
   have HBx0s9 : w7.heap.size < w9.heap.size := HBx0S.out _ mC
   try clear HBx0_8
   try clear HBx0s8
   have HBx1_9 := HBx1 w9 mC
   have HBx1s9 : w8.heap.size < w9.heap.size := HBx1S.out _ mC
   try clear HBx1_8
   try clear HBx1s8
   have HBa0ltg1 : ∀ k ∈ bg1, W.heap.size < k := fun k hk => Nat.lt_of_lt_of_le (HBa0S.out _ mC) (lg1 k hk)
   have HBa1ltg1 : ∀ k ∈ bg1, W.heap.size + 1 < k := fun k hk => Nat.lt_of_lt_of_le (HBa1S.out _ mC) (lg1 k hk)
   have HBy1ltg1 : ∀ k ∈ bg1, py < k := fun k hk => Nat.lt_of_lt_of_le HBy1z (Nat.le_trans (More.size (show More _ _ from mC)) (lg1 k hk))
   have HBy2ltg1 : ∀ k ∈ bg1, qy < k := fun k hk => Nat.lt_of_lt_of_le HBy2z (Nat.le_trans (More.size (show More _ _ from mC)) (lg1 k hk))
   have HBx0ltg1 : ∀ k ∈ bg1, w7.heap.size < k := fun k hk => Nat.lt_of_lt_of_le (HBx0S.out _ mC) (lg1 k hk)
   have HBx1ltg1 : ∀ k ∈ bg1, w8.heap.size < k := fun k hk => Nat.lt_of_lt_of_le (HBx1S.out _ mC) (lg1 k hk)
   have lg1_x0 : ∀ k ∈ bg1, w7.heap.size ≤ k := fun k hk => Nat.le_trans (More.size (show More w7 _ from mC)) (lg1 k hk)
   have lg1_x1 : ∀ k ∈ bg1, w8.heap.size ≤ k := fun k hk => Nat.le_trans (More.size (show More w8 _ from mC)) (lg1 k hk)
   have HBa0ltg2 : ∀ k ∈ bg2, W.heap.size < k := fun k hk => Nat.lt_of_lt_of_le (HBa0S.out _ mC) (lg2 k hk)
   have HBa1ltg2 : ∀ k ∈ bg2, W.heap.size + 1 < k := fun k hk => Nat.lt_of_lt_of_le (HBa1S.out _ mC) (lg2 k hk)
   have HBy1ltg2 : ∀ k ∈ bg2, py < k := fun k hk => Nat.lt_of_lt_of_le HBy1z (Nat.le_trans (More.size (show More _ _ from mC)) (lg2 k hk))
   have HBy2ltg2 : ∀ k ∈ bg2, qy < k := fun k hk => Nat.lt_of_lt_of_le HBy2z (Nat.le_trans (More.size (show More _ _ from mC)) (lg2 k hk))
   have HBx0ltg2 : ∀ k ∈ bg2, w7.heap.size < k := fun k hk => Nat.lt_of_lt_of_le (HBx0S.out _ mC) (lg2 k hk)
   have HBx1ltg2 : ∀ k ∈ bg2, w8.heap.size < k := fun k hk => Nat.lt_of_lt_of_le (HBx1S.out _ mC) (lg2 k hk)
   have lg2_x0 : ∀ k ∈ bg2, w7.heap.size ≤ k := fun k hk => Nat.le_trans (More.size (show More w7 _ from mC)) (lg2 k hk)
   have lg2_x1 : ∀ k ∈ bg2, w8.heap.size ≤ k := fun k hk => Nat.le_trans (More.size (show More w8 _ from mC)) (lg2 k hk)
   have lg2_g1 := lg2
   have HBg1 : ∀ w', More ((w9.alloc (.cells #[.bool r1.1.1, .slice ga1 gn1 gc1, .slice gd1 gm1 ge1] 55)).alloc (.cells #[.bool r2.1.1, .slice ga2 gn2 gc2, .slice gd2 gm2 ge2] 55)) w' → w'.cell? ⟨w9.heap.size, 0, none⟩ = some (.bool r1.1.1) ∧ w'.cell? ⟨w9.heap.size, 1, none⟩ = some (.slice ga1 gn1 gc1) ∧ w'.cell? ⟨w9.heap.size, 2, none⟩ = some (.slice gd1 gm1 ge1) := fun w' h => ⟨box_new (by simp) (More.un h) 0, box_new (by simp) (More.un h) 1, box_new (by simp) (More.un h) 2⟩
   have HBg1S := Lib.hid (fun (w' : World) (h : More ((w9.alloc (.cells #[.bool r1.1.1, .slice ga1 gn1 gc1, .slice gd1 gm1 ge1] 55)).alloc (.cells #[.bool r2.1.1, .slice ga2 gn2 gc2, .slice gd2 gm2 ge2] 55)) w') => (by have := More.size h; simp at this; omega : w9.heap.size < w'.heap.size))
   have HBg1gex0 : w7.heap.size ≤ w9.heap.size := by have := More.size (show More w7 w9 from mC); omega
   have HBg1gex1 : w8.heap.size ≤ w9.heap.size := by have := More.size (show More w8 w9 from mC); omega
   have HBg1geg1 : w9.heap.size ≤ w9.heap.size := by have := More.size (show More w9 w9 from mC); omega
   have HBg1geg2 : w9.heap.size ≤ w9.heap.size := by have := More.size (show More w9 w9 from mC); omega
   have HBg2 : ∀ w', More ((w9.alloc (.cells #[.bool r1.1.1, .slice ga1 gn1 gc1, .slice gd1 gm1 ge1] 55)).alloc (.cells #[.bool r2.1.1, .slice ga2 gn2 gc2, .slice gd2 gm2 ge2] 55)) w' → w'.cell? ⟨w9.heap.size + 1, 0, none⟩ = some (.bool r2.1.1) ∧ w'.cell? ⟨w9.heap.size + 1, 1, none⟩ = some (.slice ga2 gn2 gc2) ∧ w'.cell? ⟨w9.heap.size + 1, 2, none⟩ = some (.slice gd2 gm2 ge2) := fun w' h => ⟨box_new (by simp) h 0, box_new (by simp) h 1, box_new (by simp) h 2⟩
   have HBg2S := Lib.hid (fun (w' : World) (h : More ((w9.alloc (.cells #[.bool r1.1.1, .slice ga1 gn1 gc1, .slice gd1 gm1 ge1] 55)).alloc (.cells #[.bool r2.1.1, .slice ga2 gn2 gc2, .slice gd2 gm2 ge2] 55)) w') => (by have := More.size h; simp at this; omega : w9.heap.size + 1 < w'.heap.size))
   have HBg2gex0 : w7.heap.size ≤ w9.heap.size + 1 := by have := More.size (show More w7 w9 from mC); omega
   have HBg2gex1 : w8.heap.size ≤ w9.heap.size + 1 := by have := More.size (show More w8 w9 from mC); omega
   have HBg2geg1 : w9.heap.size ≤ w9.heap.size + 1 := by have := More.size (show More w9 w9 from mC); omega
   have HBg2geg2 : w9.heap.size ≤ w9.heap.size + 1 := by have := More.size (show More w9 w9 from mC); omega
   go_wp2_with (first | (refine wpList_load_mid rfl _ _ rfl (W.heap.size) 0 rfl _ _ (HBa0 _ mC) Try.underlying50 rfl (by kernel_rfl) ?_) | (refine wpList_load_mid rfl _ _ rfl (w7.heap.size) 0 rfl _ _ (HBx0 _ mC) Try.underlying59 rfl (by kernel_rfl) ?_))
   as_aux_lemma =>
    refine (laws_eqRat _ _ r1 _ (Ty.at_more (Ty.rd_at (tRat.own_rd G1)) mC) (Ty.at_more (Ty.fresh_at Fy1) mC) HrL1.out).mono ?_
    rintro e w10 ⟨rfl, b10⟩
    have HBa0_10 := HBa0 w10 mC
    have HBa0s10 : W.heap.size < w10.heap.size := HBa0S.out _ mC
    try clear HBa0_9
    try clear HBa0s9
    have HBa1_10 := HBa1 w10 mC
    have HBa1s10 : W.heap.size + 1 < w10.heap.size := HBa1S.out _ mC
    try clear HBa1_9
    try clear HBa1s9
    have HBy1_10 := HBy1 w10 mC
    have HBy1s10 : py < w10.heap.size := Nat.lt_of_lt_of_le HBy1z (More.size (show More _ w10 from mC))
    try clear HBy1_9
    try clear HBy1s9
    have HBy2_10 := HBy2 w10 mC
    have HBy2s10 : qy < w10.heap.size := Nat.lt_of_lt_of_le HBy2z (More.size (show More _ w10 from mC))
    try clear HBy2_9
    try clear HBy2s9
    have HBx0_10 := HBx0 w10 mC
    have HBx0s10 : w7.heap.size < w10.heap.size := HBx0S.out _ mC
    try clear HBx0_9
    try clear HBx0s9
    have HBx1_10 := HBx1 w10 mC
    have HBx1s10 : w8.heap.size < w10.heap.size := HBx1S.out _ mC
    try clear HBx1_9
    try clear HBx1s9
    have HBg1_10 := HBg1 w10 mC
    have HBg1s10 : w9.heap.size < w10.heap.size := HBg1S.out _ mC
    try clear HBg1_9
    try clear HBg1s9
    have HBg2_10 := HBg2 w10 mC
    have HBg2s10 : w9.heap.size + 1 < w10.heap.size := HBg2S.out _ mC
    try clear HBg2_9
    try clear HBg2s9
    go_wp2_with (first | (refine wpList_load_mid rfl _ _ rfl (W.heap.size) 0 rfl _ _ (HBa0 _ mC) Try.underlying50 rfl (by kernel_rfl) ?_) | (refine wpList_load_mid rfl _ _ rfl (w7.heap.size) 0 rfl _ _ (HBx0 _ mC) Try.underlying59 rfl (by kernel_rfl) ?_))
    refine (laws_eqRat _ _ r2 _ (Ty.at_more (Ty.rd_at (tRat.own_rd G2)) mC) (Ty.at_more (Ty.fresh_at Fy2) mC) HrL2.out).mono ?_
    rintro e w11 ⟨rfl, b11⟩
    have HBa0_11 := HBa0 w11 mC
    have HBa0s11 : W.heap.size < w11.heap.size := HBa0S.out _ mC
    try clear HBa0_10
    try clear HBa0s10
    have HBa1_11 := HBa1 w11 mC
    have HBa1s11 : W.heap.size + 1 < w11.heap.size := HBa1S.out _ mC
    try clear HBa1_10
    try clear HBa1s10
    have HBy1_11 := HBy1 w11 mC
    have HBy1s11 : py < w11.heap.size := Nat.lt_of_lt_of_le HBy1z (More.size (show More _ w11 from mC))
    try clear HBy1_10
    try clear HBy1s10
    have HBy2_11 := HBy2 w11 mC
    have HBy2s11 : qy < w11.heap.size := Nat.lt_of_lt_of_le HBy2z (More.size (show More _ w11 from mC))
    try clear HBy2_10
    try clear HBy2s10
    have HBx0_11 := HBx0 w11 mC
    have HBx0s11 : w7.heap.size < w11.heap.size := HBx0S.out _ mC
    try clear HBx0_10
    try clear HBx0s10
    have HBx1_11 := HBx1 w11 mC
    have HBx1s11 : w8.heap.size < w11.heap.size := HBx1S.out _ mC
    try clear HBx1_10
    try clear HBx1s10
    have HBg1_11 := HBg1 w11 mC
    have HBg1s11 : w9.heap.size < w11.heap.size := HBg1S.out _ mC
    try clear HBg1_10
    try clear HBg1s10
    have HBg2_11 := HBg2 w11 mC
    have HBg2s11 : w9.heap.size + 1 < w11.heap.size := HBg2S.out _ mC
    try clear HBg2_10
    try clear HBg2s10
    go_wp2_with (first | (refine wpList_load_mid rfl _ _ rfl (W.heap.size) 0 rfl _ _ (HBa0 _ mC) Try.underlying50 rfl (by kernel_rfl) ?_) | (refine wpList_load_mid rfl _ _ rfl (w7.heap.size) 0 rfl _ _ (HBx0 _ mC) Try.underlying59 rfl (by kernel_rfl) ?_))
    have RHBa0 := fun (w' : World) (h : More w11 w') => HBa0 w' (More.trans (show More _ w11 from mC) h)
    clear HBa0_11
    have RHBa1 := fun (w' : World) (h : More w11 w') => HBa1 w' (More.trans (show More _ w11 from mC) h)
    clear HBa1_11
    have RHBy1 := fun (w' : World) (h : More w11 w') => HBy1 w' (More.trans (show More _ w11 from mC) h)
    clear HBy1_11
    have RHBy2 := fun (w' : World) (h : More w11 w') => HBy2 w' (More.trans (show More _ w11 from mC) h)
    clear HBy2_11
    have RHBx0 := fun (w' : World) (h : More w11 w') => HBx0 w' (More.trans (show More _ w11 from mC) h)
    clear HBx0_11
    have RHBx1 := fun (w' : World) (h : More w11 w') => HBx1 w' (More.trans (show More _ w11 from mC) h)
    clear HBx1_11
    have RHBg1 := fun (w' : World) (h : More w11 w') => HBg1 w' (More.trans (show More _ w11 from mC) h)
    clear HBg1_11
    have RHBg2 := fun (w' : World) (h : More w11 w') => HBg2 w' (More.trans (show More _ w11 from mC) h)
    clear HBg2_11
    as_aux_lemma =>
     refine wp_region_held_drew (S := (fun w' => More w11 w')) (by kernel_rfl) ?_ (fun hHeld => ?_)
     · first | exact More.refl _ | exact mC
     refine tk (v := .agg ([.bool x.1.1.1, .slice x0za1 x0zn1 x0zc1, .slice x0za2 x0zn2 x0zc2, .bool x.2.1.1.1, .slice x0za4 x0zn4 x0zc4, .slice x0za5 x0zn5 x0zc5, .bool x.2.2.1.1.1, .slice x0za7 x0zn7 x0zc7, .slice x0za8 x0zn8 x0zc8, .bool x.2.2.2.1.1.1, .slice x0za10 x0zn10 x0zc10, .slice x0za11 x0zn11 x0zc11, .bool x.2.2.2.2.1.1.1, .slice x0za13 x0zn13 x0zc13, .slice x0za14 x0zn14 x0zc14, .bool x.2.2.2.2.2.1.1, .slice x0za16 x0zn16 x0zc16, .slice x0za17 x0zn17 x0zc17] : List Value).toArray) 0 ⟨some 65, _, _, _, _, _⟩ rfl ?_ (fun w9 hSw => run_ld _ _ rfl (w7.heap.size) 0 rfl [.bool x.1.1.1, .slice x0za1 x0zn1 x0zc1, .slice x0za2 x0zn2 x0zc2, .bool x.2.1.1.1, .slice x0za4 x0zn4 x0zc4, .slice x0za5 x0zn5 x0zc5, .bool x.2.2.1.1.1, .slice x0za7 x0zn7 x0zc7, .slice x0za8 x0zn8 x0zc8, .bool x.2.2.2.1.1.1, .slice x0za10 x0zn10 x0zc10, .slice x0za11 x0zn11 x0zc11, .bool x.2.2.2.2.1.1.1, .slice x0za13 x0zn13 x0zc13, .slice x0za14 x0zn14 x0zc14, .bool x.2.2.2.2.2.1.1, .slice x0za16 x0zn16 x0zc16, .slice x0za17 x0zn17 x0zc17] _ (RHBx0 w9 hSw) Try.underlying59 rfl (by kernel_rfl))
     (try simp only [Act.put, tkA, tkB, tkC])
     refine tk (v := .agg ([.bool x.1.1.1, .slice s0a1 s0n1 s0c1, .slice s0a2 s0n2 s0c2, .bool x.2.1.1.1, .slice s0a4 s0n4 s0c4, .slice s0a5 s0n5 s0c5, .bool x.2.2.1.1.1, .slice s0a7 s0n7 s0c7, .slice s0a8 s0n8 s0c8, .bool x.2.2.2.1.1.1, .slice s0a10 s0n10 s0c10, .slice s0a11 s0n11 s0c11, .bool x.2.2.2.2.1.1.1, .slice s0a13 s0n13 s0c13, .slice s0a14 s0n14 s0c14, .bool x.2.2.2.2.2.1.1, .slice s0a16 s0n16 s0c16, .slice s0a17 s0n17 s0c17] : List Value).toArray) 1 ⟨some 66, _, _, _, _, _⟩ rfl ?_ (fun w9 hSw => run_ld _ _ rfl (W.heap.size) 0 rfl [.bool x.1.1.1, .slice s0a1 s0n1 s0c1, .slice s0a2 s0n2 s0c2, .bool x.2.1.1.1, .slice s0a4 s0n4 s0c4, .slice s0a5 s0n5 s0c5, .bool x.2.2.1.1.1, .slice s0a7 s0n7 s0c7, .slice s0a8 s0n8 s0c8, .bool x.2.2.2.1.1.1, .slice s0a10 s0n10 s0c10, .slice s0a11 s0n11 s0c11, .bool x.2.2.2.2.1.1.1, .slice s0a13 s0n13 s0c13, .slice s0a14 s0n14 s0c14, .bool x.2.2.2.2.2.1.1, .slice s0a16 s0n16 s0c16, .slice s0a17 s0n17 s0c17] _ (RHBa0 w9 hSw) Try.underlying50 rfl (by kernel_rfl))
     (try simp only [Act.put, tkA, tkB, tkC])
     refine wpAnyH_ready (rs := [2]) (by kernel_rfl) (by simp) ?_
     refine AllReadyH.cons (o := ⟨some 67, _, _, _, _, _⟩) rfl (fun K hK => ?_) AllReadyH.nil
     go_simp
     (go_at_call 19; (with_reducible refine (laws_toCell _ x _ (Ty.at_more HV0.out mC) Hs0.out).mono ?_); rintro e w12 ⟨t0, rfl, b12, Ft0⟩; obtain ⟨t0za1, t0zn1, t0zc1, t0za2, t0zn2, t0zc2, t0za4, t0zn4, t0zc4, t0za5, t0zn5, t0zc5, t0za7, t0zn7, t0zc7, t0za8, t0zn8, t0zc8, t0za10, t0zn10, t0zc10, t0za11, t0zn11, t0zc11, t0za13, t0zn13, t0zc13, t0za14, t0zn14, t0zc14, t0za16, t0zn16, t0zc16, t0za17, t0zn17, t0zc17, rfl⟩ := sh_Cell (Ty.fresh_at Ft0))
     refine hK.out _ _ ?_ (fun hHeld => ?_)
     · first | exact More.refl _ | exact mC
     clear hK K
     (try simp only [Act.put, tkA, tkB, tkC])
     refine wpAnyH_ready (rs := [3]) (by kernel_rfl) (by simp) ?_
     refine AllReadyH.cons (o := ⟨some 68, _, _, _, _, _⟩) rfl (fun K hK => ?_) AllReadyH.nil
     go_simp
     (go_at_call 23; (with_reducible refine (laws_eqCell _ _ x _ (Ty.at_more (Ty.rd_at (tCell.own_rd X0)) mC) (Ty.at_more (Ty.fresh_at Ft0) (Turns.more (by ((repeat (first | (with_reducible apply Turns.drew) | (with_reducible apply Turns.drewN) | (with_reducible apply Turns.alloc))); exact Turns.refl _ _)))) Hs0.out).mono ?_); rintro e w13 ⟨rfl, b13⟩)
     refine hK.out _ _ ?_ (fun hHeld => ?_)
     · first | exact More.refl _ | exact mC
     clear hK K
     (try simp only [Act.put, tkA, tkB, tkC])
     refine tk (v := ?_) 4 ⟨some 69, _, _, _, _, _⟩ rfl ?_ ?_
     rotate_left 2
     · (intro w hSw; (try dsimp only at hSw); go_simp; (try with_reducible rfl))
     (try simp only [Act.put, tkA, tkB, tkC])
     refine wpAnyH_done (by kernel_rfl) ?_ _
     clear RHBa0
     clear RHBa1
     clear RHBy1
     clear RHBy2
     clear RHBx0
     clear RHBx1
     clear RHBg1
     clear RHBg2
     have HBa0_13 := HBa0 w13 mC
     have HBa0s13 : W.heap.size < w13.heap.size := HBa0S.out _ mC
     try clear HBa0_12
     try clear HBa0s12
     have HBa1_13 := HBa1 w13 mC
     have HBa1s13 : W.heap.size + 1 < w13.heap.size := HBa1S.out _ mC
     try clear HBa1_12
     try clear HBa1s12
     have HBy1_13 := HBy1 w13 mC
     have HBy1s13 : py < w13.heap.size := Nat.lt_of_lt_of_le HBy1z (More.size (show More _ w13 from mC))
     try clear HBy1_12
     try clear HBy1s12
     have HBy2_13 := HBy2 w13 mC
     have HBy2s13 : qy < w13.heap.size := Nat.lt_of_lt_of_le HBy2z (More.size (show More _ w13 from mC))
     try clear HBy2_12
     try clear HBy2s12
     have HBx0_13 := HBx0 w13 mC
     have HBx0s13 : w7.heap.size < w13.heap.size := HBx0S.out _ mC
     try clear HBx0_12
     try clear HBx0s12
     have HBx1_13 := HBx1 w13 mC
     have HBx1s13 : w8.heap.size < w13.heap.size := HBx1S.out _ mC
     try clear HBx1_12
     try clear HBx1s12
     have HBg1_13 := HBg1 w13 mC
     have HBg1s13 : w9.heap.size < w13.heap.size := HBg1S.out _ mC
     try clear HBg1_12
     try clear HBg1s12
     have HBg2_13 := HBg2 w13 mC
     have HBg2s13 : w9.heap.size + 1 < w13.heap.size := HBg2S.out _ mC
     try clear HBg2_12
     try clear HBg2s12
     go_wp2_with (first | (refine wpList_load_mid rfl _ _ rfl (W.heap.size) 0 rfl _ _ (HBa0 _ mC) Try.underlying50 rfl (by kernel_rfl) ?_) | (refine wpList_load_mid rfl _ _ rfl (w7.heap.size) 0 rfl _ _ (HBx0 _ mC) Try.underlying59 rfl (by kernel_rfl) ?_))
     have RHBa0 := fun (w' : World) (h : More w13 w') => HBa0 w' (More.trans (show More _ w13 from mC) h)
     clear HBa0_13
     have RHBa1 := fun (w' : World) (h : More w13 w') => HBa1 w' (More.trans (show More _ w13 from mC) h)
     clear HBa1_13
     have RHBy1 := fun (w' : World) (h : More w13 w') => HBy1 w' (More.trans (show More _ w13 from mC) h)
     clear HBy1_13
     have RHBy2 := fun (w' : World) (h : More w13 w') => HBy2 w' (More.trans (show More _ w13 from mC) h)
     clear HBy2_13
     have RHBx0 := fun (w' : World) (h : More w13 w') => HBx0 w' (More.trans (show More _ w13 from mC) h)
     clear HBx0_13
     have RHBx1 := fun (w' : World) (h : More w13 w') => HBx1 w' (More.trans (show More _ w13 from mC) h)
     clear HBx1_13
     have RHBg1 := fun (w' : World) (h : More w13 w') => HBg1 w' (More.trans (show More _ w13 from mC) h)
     clear HBg1_13
     have RHBg2 := fun (w' : World) (h : More w13 w') => HBg2 w' (More.trans (show More _ w13 from mC) h)
     clear HBg2_13
     as_aux_lemma =>
      refine wp_region_held_drew (S := (fun w' => More w13 w')) (by kernel_rfl) ?_ (fun hHeld => ?_)
      · first | exact More.refl _ | exact mC
      refine tk (v := ?_) 0 ⟨some 70, _, _, _, _, _⟩ rfl ?_ ?_
      rotate_left 2
      · (intro w hSw; (try dsimp only at hSw); go_simp; (try with_reducible rfl))
      (try simp only [Act.put, tkA, tkB, tkC])
      refine tk (v := ?_) 1 ⟨some 71, _, _, _, _, _⟩ rfl ?_ ?_
      rotate_left 2
      · (intro w hSw; (try dsimp only at hSw); go_simp; (try with_reducible rfl))
      (try simp only [Act.put, tkA, tkB, tkC])
      refine wpAnyH_ready (rs := [2]) (by kernel_rfl) (by simp) ?_
      refine AllReadyH.cons (o := ⟨some 72, _, _, _, _, _⟩) rfl (fun K hK => ?_) AllReadyH.nil
      go_simp
      (go_at_call 20; (with_reducible refine (laws_toRat _ p _ (Ty.at_more HV1.out mC) Hs1.out).mono ?_); rintro e w14 ⟨t1, rfl, b14, Ft1⟩; obtain ⟨t1za1, t1zn1, t1zc1, t1za2, t1zn2, t1zc2, rfl⟩ := sh_Rat (Ty.fresh_at Ft1))
      refine hK.out _ _ ?_ (fun hHeld => ?_)
      · first | exact More.refl _ | exact mC
      clear hK K
      (try simp only [Act.put, tkA, tkB, tkC])
      refine wpAnyH_ready (rs := [3]) (by kernel_rfl) (by simp) ?_
      refine AllReadyH.cons (o := ⟨some 73, _, _, _, _, _⟩) rfl (fun K hK => ?_) AllReadyH.nil
      go_simp
      (go_at_call 22; (with_reducible refine (laws_eqRat _ _ p _ (Ty.at_more (Ty.rd_at (tRat.own_rd X1)) mC) (Ty.at_more (Ty.fresh_at Ft1) (Turns.more (by ((repeat (first | (with_reducible apply Turns.drew) | (with_reducible apply Turns.drewN) | (with_reducible apply Turns.alloc))); exact Turns.refl _ _)))) Hs1.out).mono ?_); rintro e w15 ⟨rfl, b15⟩)
      refine hK.out _ _ ?_ (fun hHeld => ?_)
      · first | exact More.refl _ | exact mC
      clear hK K
      (try simp only [Act.put, tkA, tkB, tkC])
      refine tk (v := ?_) 4 ⟨some 74, _, _, _, _, _⟩ rfl ?_ ?_
      rotate_left 2
      · (intro w hSw; (try dsimp only at hSw); go_simp; (try with_reducible rfl))
      (try simp only [Act.put, tkA, tkB, tkC])
      refine wpAnyH_done (by kernel_rfl) ?_ _
      clear RHBa0
      clear RHBa1
      clear RHBy1
      clear RHBy2
      clear RHBx0
      clear RHBx1
      clear RHBg1
      clear RHBg2
      have HBa0_15 := HBa0 w15 mC
      have HBa0s15 : W.heap.size < w15.heap.size := HBa0S.out _ mC
      try clear HBa0_14
      try clear HBa0s14
      have HBa1_15 := HBa1 w15 mC
      have HBa1s15 : W.heap.size + 1 < w15.heap.size := HBa1S.out _ mC
      try clear HBa1_14
      try clear HBa1s14
      have HBy1_15 := HBy1 w15 mC
      have HBy1s15 : py < w15.heap.size := Nat.lt_of_lt_of_le HBy1z (More.size (show More _ w15 from mC))
      try clear HBy1_14
      try clear HBy1s14
      have HBy2_15 := HBy2 w15 mC
      have HBy2s15 : qy < w15.heap.size := Nat.lt_of_lt_of_le HBy2z (More.size (show More _ w15 from mC))
      try clear HBy2_14
      try clear HBy2s14
      have HBx0_15 := HBx0 w15 mC
      have HBx0s15 : w7.heap.size < w15.heap.size := HBx0S.out _ mC
      try clear HBx0_14
      try clear HBx0s14
      have HBx1_15 := HBx1 w15 mC
      have HBx1s15 : w8.heap.size < w15.heap.size := HBx1S.out _ mC
      try clear HBx1_14
      try clear HBx1s14
      have HBg1_15 := HBg1 w15 mC
      have HBg1s15 : w9.heap.size < w15.heap.size := HBg1S.out _ mC
      try clear HBg1_14
      try clear HBg1s14
      have HBg2_15 := HBg2 w15 mC
      have HBg2s15 : w9.heap.size + 1 < w15.heap.size := HBg2S.out _ mC
      try clear HBg2_14
      try clear HBg2s14
      go_wp2_with (first | (refine wpList_load_mid rfl _ _ rfl (W.heap.size) 0 rfl _ _ (HBa0 _ mC) Try.underlying50 rfl (by kernel_rfl) ?_) | (refine wpList_load_mid rfl _ _ rfl (w7.heap.size) 0 rfl _ _ (HBx0 _ mC) Try.underlying59 rfl (by kernel_rfl) ?_))
      as_aux_lemma =>
       refine (laws_markCell_ bx0 _ x _ _ (Ty.own_more X0 mC) nx0 (by omega) (by have h09 := HC0.out; have h19 := HC1.out; have hr19 := HrC1.out; have := HC0.out; omega) Hs0.out).mono ?_
       rintro e w16 ⟨rfl, T16, M16⟩
       have x1o16 := Ty.own_turns (Ty.own_more X1 mC) T16 (fun k hk hk' => by have h1 := lx1_x0 k hk; have h2 := tCell.own_lt X0 k hk'; omega)
       have g1o16 := Ty.own_turns (Ty.own_more G1 mC) T16 (fun k hk hk' => by have h1 := lg1_x0 k hk; have h2 := tCell.own_lt X0 k hk'; omega)
       have g2o16 := Ty.own_turns (Ty.own_more G2 mC) T16 (fun k hk hk' => by have h1 := lg2_x0 k hk; have h2 := tCell.own_lt X0 k hk'; omega)
       have HBa0z' : W.heap.size < w16.heap.size := Nat.lt_of_lt_of_le (HBa0S.out _ mC) T16.size
       have HBa0k := range_turn T16 (HBa0S.out _ mC) (fun h => by have h1 := HBa0ltx0 _ h; omega) (HBa0 _ mC)
       have HBa1z' : W.heap.size + 1 < w16.heap.size := Nat.lt_of_lt_of_le (HBa1S.out _ mC) T16.size
       have HBa1k := tc3 T16 (HBa1S.out _ mC) (fun h => by have h1 := HBa1ltx0 _ h; omega) (HBa1 _ mC)
       have HBy1z' : py < w16.heap.size := Nat.lt_of_lt_of_le (Nat.lt_of_lt_of_le HBy1z (More.size (show More _ _ from mC))) T16.size
       have HBy1k := tc3 T16 (Nat.lt_of_lt_of_le HBy1z (More.size (show More _ _ from mC))) (fun h => by have h1 := HBy1ltx0 _ h; omega) (HBy1 _ mC)
       have HBy2z' : qy < w16.heap.size := Nat.lt_of_lt_of_le (Nat.lt_of_lt_of_le HBy2z (More.size (show More _ _ from mC))) T16.size
       have HBy2k := tc3 T16 (Nat.lt_of_lt_of_le HBy2z (More.size (show More _ _ from mC))) (fun h => by have h1 := HBy2ltx0 _ h; omega) (HBy2 _ mC)
       have HBx0z' : w7.heap.size < w16.heap.size := Nat.lt_of_lt_of_le (HBx0S.out _ mC) T16.size
       have HBx0k := range_turn T16 (HBx0S.out _ mC) (fun h => by have h1 := HBx0gex0; have h2 := tCell.own_lt X0 _ h; omega) (HBx0 _ mC)
       have HBx1z' : w8.heap.size < w16.heap.size := Nat.lt_of_lt_of_le (HBx1S.out _ mC) T16.size
       have HBx1k := tc3 T16 (HBx1S.out _ mC) (fun h => by have h1 := HBx1gex0; have h2 := tCell.own_lt X0 _ h; omega) (HBx1 _ mC)
       have HBg1z' : w9.heap.size < w16.heap.size := Nat.lt_of_lt_of_le (HBg1S.out _ mC) T16.size
       have HBg1k := tc3 T16 (HBg1S.out _ mC) (fun h => by have h1 := HBg1gex0; have h2 := tCell.own_lt X0 _ h; omega) (HBg1 _ mC)
       have HBg2z' : w9.heap.size + 1 < w16.heap.size := Nat.lt_of_lt_of_le (HBg2S.out _ mC) T16.size
       have HBg2k := tc3 T16 (HBg2S.out _ mC) (fun h => by have h1 := HBg2gex0; have h2 := tCell.own_lt X0 _ h; omega) (HBg2 _ mC)
       have b16 := More.turn (b7.trans mC) T16 lx0
       try clear HBa0_15
       try clear HBa0s15
       clear HBa0
       have HBa0 := fun (w' : World) (h : More w16 w') => range_keep h HBa0z' HBa0k
       try clear HBa0z
       have HBa0z := HBa0z'; clear HBa0z' HBa0k
       have HBa0_16 := HBa0 w16 (More.refl _)
       have HBa0s16 := HBa0z
       try clear HBa1_15
       try clear HBa1s15
       clear HBa1
       have HBa1 := fun (w' : World) (h : More w16 w') => kp3 h HBa1z' HBa1k
       try clear HBa1z
       have HBa1z := HBa1z'; clear HBa1z' HBa1k
       have HBa1_16 := HBa1 w16 (More.refl _)
       have HBa1s16 := HBa1z
       try clear HBy1_15
       try clear HBy1s15
       clear HBy1
       have HBy1 := fun (w' : World) (h : More w16 w') => kp3 h HBy1z' HBy1k
       try clear HBy1z
       have HBy1z := HBy1z'; clear HBy1z' HBy1k
       have HBy1_16 := HBy1 w16 (More.refl _)
       have HBy1s16 := HBy1z
       try clear HBy2_15
       try clear HBy2s15
       clear HBy2
       have HBy2 := fun (w' : World) (h : More w16 w') => kp3 h HBy2z' HBy2k
       try clear HBy2z
       have HBy2z := HBy2z'; clear HBy2z' HBy2k
       have HBy2_16 := HBy2 w16 (More.refl _)
       have HBy2s16 := HBy2z
       try clear HBx0_15
       try clear HBx0s15
       clear HBx0
       have HBx0 := fun (w' : World) (h : More w16 w') => range_keep h HBx0z' HBx0k
       try clear HBx0z
       have HBx0z := HBx0z'; clear HBx0z' HBx0k
       have HBx0_16 := HBx0 w16 (More.refl _)
       have HBx0s16 := HBx0z
       try clear HBx1_15
       try clear HBx1s15
       clear HBx1
       have HBx1 := fun (w' : World) (h : More w16 w') => kp3 h HBx1z' HBx1k
       try clear HBx1z
       have HBx1z := HBx1z'; clear HBx1z' HBx1k
       have HBx1_16 := HBx1 w16 (More.refl _)
       have HBx1s16 := HBx1z
       try clear HBg1_15
       try clear HBg1s15
       clear HBg1
       have HBg1 := fun (w' : World) (h : More w16 w') => kp3 h HBg1z' HBg1k
       try clear HBg1z
       have HBg1z := HBg1z'; clear HBg1z' HBg1k
       have HBg1_16 := HBg1 w16 (More.refl _)
       have HBg1s16 := HBg1z
       try clear HBg2_15
       try clear HBg2s15
       clear HBg2
       have HBg2 := fun (w' : World) (h : More w16 w') => kp3 h HBg2z' HBg2k
       try clear HBg2z
       have HBg2z := HBg2z'; clear HBg2z' HBg2k
       have HBg2_16 := HBg2 w16 (More.refl _)
       have HBg2s16 := HBg2z
       have k16 : 0 ≤ 1 + ((cCell x : Nat) : Int) := by omega
       go_wp2_with (first | (refine wpList_load_mid rfl _ _ rfl (W.heap.size) 0 rfl _ _ (HBa0 _ mC) Try.underlying50 rfl (by kernel_rfl) ?_) | (refine wpList_load_mid rfl _ _ rfl (w7.heap.size) 0 rfl _ _ (HBx0 _ mC) Try.underlying59 rfl (by kernel_rfl) ?_))
       as_aux_lemma =>
        refine (laws_markRat_ bx1 _ p _ _ (Ty.own_more x1o16 mC) nx1 (by omega) (by have h09 := HC0.out; have h19 := HC1.out; have hr19 := HrC1.out; have := HC1.out; omega) Hs1.out).mono ?_
        rintro e w17 ⟨rfl, T17, M17⟩
        have g1o17 := Ty.own_turns (Ty.own_more g1o16 mC) T17 (fun k hk hk' => by have h1 := lg1_x1 k hk; have h2 := tRat.own_lt X1 k hk'; omega)
        have g2o17 := Ty.own_turns (Ty.own_more g2o16 mC) T17 (fun k hk hk' => by have h1 := lg2_x1 k hk; have h2 := tRat.own_lt X1 k hk'; omega)
        have HBa0z' : W.heap.size < w17.heap.size := Nat.lt_of_lt_of_le (Nat.lt_of_lt_of_le HBa0z (More.size (show More _ _ from mC))) T17.size
        have HBa0k := range_turn T17 (Nat.lt_of_lt_of_le HBa0z (More.size (show More _ _ from mC))) (fun h => by have h1 := HBa0ltx1 _ h; omega) (HBa0 _ mC)
        have HBa1z' : W.heap.size + 1 < w17.heap.size := Nat.lt_of_lt_of_le (Nat.lt_of_lt_of_le HBa1z (More.size (show More _ _ from mC))) T17.size
        have HBa1k := tc3 T17 (Nat.lt_of_lt_of_le HBa1z (More.size (show More _ _ from mC))) (fun h => by have h1 := HBa1ltx1 _ h; omega) (HBa1 _ mC)
        have HBy1z' : py < w17.heap.size := Nat.lt_of_lt_of_le (Nat.lt_of_lt_of_le HBy1z (More.size (show More _ _ from mC))) T17.size
        have HBy1k := tc3 T17 (Nat.lt_of_lt_of_le HBy1z (More.size (show More _ _ from mC))) (fun h => by have h1 := HBy1ltx1 _ h; omega) (HBy1 _ mC)
        have HBy2z' : qy < w17.heap.size := Nat.lt_of_lt_of_le (Nat.lt_of_lt_of_le HBy2z (More.size (show More _ _ from mC))) T17.size
        have HBy2k := tc3 T17 (Nat.lt_of_lt_of_le HBy2z (More.size (show More _ _ from mC))) (fun h => by have h1 := HBy2ltx1 _ h; omega) (HBy2 _ mC)
        have HBx0z' : w7.heap.size < w17.heap.size := Nat.lt_of_lt_of_le (Nat.lt_of_lt_of_le HBx0z (More.size (show More _ _ from mC))) T17.size
        have HBx0k := range_turn T17 (Nat.lt_of_lt_of_le HBx0z (More.size (show More _ _ from mC))) (fun h => by have h1 := HBx0ltx1 _ h; omega) (HBx0 _ mC)
        have HBx1z' : w8.heap.size < w17.heap.size := Nat.lt_of_lt_of_le (Nat.lt_of_lt_of_le HBx1z (More.size (show More _ _ from mC))) T17.size
        have HBx1k := tc3 T17 (Nat.lt_of_lt_of_le HBx1z (More.size (show More _ _ from mC))) (fun h => by have h1 := HBx1gex1; have h2 := tRat.own_lt X1 _ h; omega) (HBx1 _ mC)
        have HBg1z' : w9.heap.size < w17.heap.size := Nat.lt_of_lt_of_le (Nat.lt_of_lt_of_le HBg1z (More.size (show More _ _ from mC))) T17.size
        have HBg1k := tc3 T17 (Nat.lt_of_lt_of_le HBg1z (More.size (show More _ _ from mC))) (fun h => by have h1 := HBg1gex1; have h2 := tRat.own_lt X1 _ h; omega) (HBg1 _ mC)
        have HBg2z' : w9.heap.size + 1 < w17.heap.size := Nat.lt_of_lt_of_le (Nat.lt_of_lt_of_le HBg2z (More.size (show More _ _ from mC))) T17.size
        have HBg2k := tc3 T17 (Nat.lt_of_lt_of_le HBg2z (More.size (show More _ _ from mC))) (fun h => by have h1 := HBg2gex1; have h2 := tRat.own_lt X1 _ h; omega) (HBg2 _ mC)
        have b17 := More.turn (b16.trans mC) T17 (fun k hk => Nat.le_trans (More.size (b7.trans mC)) (lx1 k hk))
        try clear HBa0_16
        try clear HBa0s16
        clear HBa0
        have HBa0 := fun (w' : World) (h : More w17 w') => range_keep h HBa0z' HBa0k
        try clear HBa0z
        have HBa0z := HBa0z'; clear HBa0z' HBa0k
        have HBa0_17 := HBa0 w17 (More.refl _)
        have HBa0s17 := HBa0z
        try clear HBa1_16
        try clear HBa1s16
        clear HBa1
        have HBa1 := fun (w' : World) (h : More w17 w') => kp3 h HBa1z' HBa1k
        try clear HBa1z
        have HBa1z := HBa1z'; clear HBa1z' HBa1k
        have HBa1_17 := HBa1 w17 (More.refl _)
        have HBa1s17 := HBa1z
        try clear HBy1_16
        try clear HBy1s16
        clear HBy1
        have HBy1 := fun (w' : World) (h : More w17 w') => kp3 h HBy1z' HBy1k
        try clear HBy1z
        have HBy1z := HBy1z'; clear HBy1z' HBy1k
        have HBy1_17 := HBy1 w17 (More.refl _)
        have HBy1s17 := HBy1z
        try clear HBy2_16
        try clear HBy2s16
        clear HBy2
        have HBy2 := fun (w' : World) (h : More w17 w') => kp3 h HBy2z' HBy2k
        try clear HBy2z
        have HBy2z := HBy2z'; clear HBy2z' HBy2k
        have HBy2_17 := HBy2 w17 (More.refl _)
        have HBy2s17 := HBy2z
        try clear HBx0_16
        try clear HBx0s16
        clear HBx0
        have HBx0 := fun (w' : World) (h : More w17 w') => range_keep h HBx0z' HBx0k
        try clear HBx0z
        have HBx0z := HBx0z'; clear HBx0z' HBx0k
        have HBx0_17 := HBx0 w17 (More.refl _)
        have HBx0s17 := HBx0z
        try clear HBx1_16
        try clear HBx1s16
        clear HBx1
        have HBx1 := fun (w' : World) (h : More w17 w') => kp3 h HBx1z' HBx1k
        try clear HBx1z
        have HBx1z := HBx1z'; clear HBx1z' HBx1k
        have HBx1_17 := HBx1 w17 (More.refl _)
        have HBx1s17 := HBx1z
        try clear HBg1_16
        try clear HBg1s16
        clear HBg1
        have HBg1 := fun (w' : World) (h : More w17 w') => kp3 h HBg1z' HBg1k
        try clear HBg1z
        have HBg1z := HBg1z'; clear HBg1z' HBg1k
        have HBg1_17 := HBg1 w17 (More.refl _)
        have HBg1s17 := HBg1z
        try clear HBg2_16
        try clear HBg2s16
        clear HBg2
        have HBg2 := fun (w' : World) (h : More w17 w') => kp3 h HBg2z' HBg2k
        try clear HBg2z
        have HBg2z := HBg2z'; clear HBg2z' HBg2k
        have HBg2_17 := HBg2 w17 (More.refl _)
        have HBg2s17 := HBg2z
        have k17 : ¬ (1 + ((cCell x : Nat) : Int) + ((cRat p : Nat) : Int) < 0) := by omega
        go_wp2_with (first | (refine wpList_load_mid rfl _ _ rfl (W.heap.size) 0 rfl _ _ (HBa0 _ mC) Try.underlying50 rfl (by kernel_rfl) ?_) | (refine wpList_load_mid rfl _ _ rfl (w7.heap.size) 0 rfl _ _ (HBx0 _ mC) Try.underlying59 rfl (by kernel_rfl) ?_))
        as_aux_lemma =>
         refine (laws_eqRat _ _ r1 _ (Ty.at_more (Ty.rd_at (tRat.own_rd g1o17)) mC) (Ty.at_more (Ty.fresh_at Fy1) mC) HrL1.out).mono ?_
         rintro e w18 ⟨rfl, b18⟩
         have HBa0_18 := HBa0 w18 mC
         have HBa0s18 : W.heap.size < w18.heap.size := Nat.lt_of_lt_of_le HBa0z (More.size (show More _ w18 from mC))
         try clear HBa0_17
         try clear HBa0s17
         have HBa1_18 := HBa1 w18 mC
         have HBa1s18 : W.heap.size + 1 < w18.heap.size := Nat.lt_of_lt_of_le HBa1z (More.size (show More _ w18 from mC))
         try clear HBa1_17
         try clear HBa1s17
         have HBy1_18 := HBy1 w18 mC
         have HBy1s18 : py < w18.heap.size := Nat.lt_of_lt_of_le HBy1z (More.size (show More _ w18 from mC))
         try clear HBy1_17
         try clear HBy1s17
         have HBy2_18 := HBy2 w18 mC
         have HBy2s18 : qy < w18.heap.size := Nat.lt_of_lt_of_le HBy2z (More.size (show More _ w18 from mC))
         try clear HBy2_17
         try clear HBy2s17
         have HBx0_18 := HBx0 w18 mC
         have HBx0s18 : w7.heap.size < w18.heap.size := Nat.lt_of_lt_of_le HBx0z (More.size (show More _ w18 from mC))
         try clear HBx0_17
         try clear HBx0s17
         have HBx1_18 := HBx1 w18 mC
         have HBx1s18 : w8.heap.size < w18.heap.size := Nat.lt_of_lt_of_le HBx1z (More.size (show More _ w18 from mC))
         try clear HBx1_17
         try clear HBx1s17
         have HBg1_18 := HBg1 w18 mC
         have HBg1s18 : w9.heap.size < w18.heap.size := Nat.lt_of_lt_of_le HBg1z (More.size (show More _ w18 from mC))
         try clear HBg1_17
         try clear HBg1s17
         have HBg2_18 := HBg2 w18 mC
         have HBg2s18 : w9.heap.size + 1 < w18.heap.size := Nat.lt_of_lt_of_le HBg2z (More.size (show More _ w18 from mC))
         try clear HBg2_17
         try clear HBg2s17
         go_wp2_with (first | (refine wpList_load_mid rfl _ _ rfl (W.heap.size) 0 rfl _ _ (HBa0 _ mC) Try.underlying50 rfl (by kernel_rfl) ?_) | (refine wpList_load_mid rfl _ _ rfl (w7.heap.size) 0 rfl _ _ (HBx0 _ mC) Try.underlying59 rfl (by kernel_rfl) ?_))
         refine (laws_eqRat _ _ r2 _ (Ty.at_more (Ty.rd_at (tRat.own_rd g2o17)) mC) (Ty.at_more (Ty.fresh_at Fy2) mC) HrL2.out).mono ?_
         rintro e w19 ⟨rfl, b19⟩
         have HBa0_19 := HBa0 w19 mC
         have HBa0s19 : W.heap.size < w19.heap.size := Nat.lt_of_lt_of_le HBa0z (More.size (show More _ w19 from mC))
         try clear HBa0_18
         try clear HBa0s18
         have HBa1_19 := HBa1 w19 mC
         have HBa1s19 : W.heap.size + 1 < w19.heap.size := Nat.lt_of_lt_of_le HBa1z (More.size (show More _ w19 from mC))
         try clear HBa1_18
         try clear HBa1s18
         have HBy1_19 := HBy1 w19 mC
         have HBy1s19 : py < w19.heap.size := Nat.lt_of_lt_of_le HBy1z (More.size (show More _ w19 from mC))
         try clear HBy1_18
         try clear HBy1s18
         have HBy2_19 := HBy2 w19 mC
         have HBy2s19 : qy < w19.heap.size := Nat.lt_of_lt_of_le HBy2z (More.size (show More _ w19 from mC))
         try clear HBy2_18
         try clear HBy2s18
         have HBx0_19 := HBx0 w19 mC
         have HBx0s19 : w7.heap.size < w19.heap.size := Nat.lt_of_lt_of_le HBx0z (More.size (show More _ w19 from mC))
         try clear HBx0_18
         try clear HBx0s18
         have HBx1_19 := HBx1 w19 mC
         have HBx1s19 : w8.heap.size < w19.heap.size := Nat.lt_of_lt_of_le HBx1z (More.size (show More _ w19 from mC))
         try clear HBx1_18
         try clear HBx1s18
         have HBg1_19 := HBg1 w19 mC
         have HBg1s19 : w9.heap.size < w19.heap.size := Nat.lt_of_lt_of_le HBg1z (More.size (show More _ w19 from mC))
         try clear HBg1_18
         try clear HBg1s18
         have HBg2_19 := HBg2 w19 mC
         have HBg2s19 : w9.heap.size + 1 < w19.heap.size := Nat.lt_of_lt_of_le HBg2z (More.size (show More _ w19 from mC))
         try clear HBg2_18
         try clear HBg2s18
         go_wp2_with (first | (refine wpList_load_mid rfl _ _ rfl (W.heap.size) 0 rfl _ _ (HBa0 _ mC) Try.underlying50 rfl (by kernel_rfl) ?_) | (refine wpList_load_mid rfl _ _ rfl (w7.heap.size) 0 rfl _ _ (HBx0 _ mC) Try.underlying59 rfl (by kernel_rfl) ?_))
         as_aux_lemma =>
          refine (laws_markRat_ bg1 _ r1 _ _ (Ty.own_more g1o17 mC) ng1 (by omega) (by have h09 := HC0.out; have h19 := HC1.out; have hr19 := HrC1.out; have := HrC1.out; omega) HrL1.out).mono ?_
          rintro e w20 ⟨rfl, T20, M20⟩
          have g2o20 := Ty.own_turns (Ty.own_more g2o17 mC) T20 (fun k hk hk' => dj k hk' hk)
          have HBa0z' : W.heap.size < w20.heap.size := Nat.lt_of_lt_of_le (Nat.lt_of_lt_of_le HBa0z (More.size (show More _ _ from mC))) T20.size
          have HBa0k := range_turn T20 (Nat.lt_of_lt_of_le HBa0z (More.size (show More _ _ from mC))) (fun h => by have h1 := HBa0ltg1 _ h; omega) (HBa0 _ mC)
          have HBa1z' : W.heap.size + 1 < w20.heap.size := Nat.lt_of_lt_of_le (Nat.lt_of_lt_of_le HBa1z (More.size (show More _ _ from mC))) T20.size
          have HBa1k := tc3 T20 (Nat.lt_of_lt_of_le HBa1z (More.size (show More _ _ from mC))) (fun h => by have h1 := HBa1ltg1 _ h; omega) (HBa1 _ mC)
          have HBy1z' : py < w20.heap.size := Nat.lt_of_lt_of_le (Nat.lt_of_lt_of_le HBy1z (More.size (show More _ _ from mC))) T20.size
          have HBy1k := tc3 T20 (Nat.lt_of_lt_of_le HBy1z (More.size (show More _ _ from mC))) (fun h => by have h1 := HBy1ltg1 _ h; omega) (HBy1 _ mC)
          have HBy2z' : qy < w20.heap.size := Nat.lt_of_lt_of_le (Nat.lt_of_lt_of_le HBy2z (More.size (show More _ _ from mC))) T20.size
          have HBy2k := tc3 T20 (Nat.lt_of_lt_of_le HBy2z (More.size (show More _ _ from mC))) (fun h => by have h1 := HBy2ltg1 _ h; omega) (HBy2 _ mC)
          have HBx0z' : w7.heap.size < w20.heap.size := Nat.lt_of_lt_of_le (Nat.lt_of_lt_of_le HBx0z (More.size (show More _ _ from mC))) T20.size
          have HBx0k := range_turn T20 (Nat.lt_of_lt_of_le HBx0z (More.size (show More _ _ from mC))) (fun h => by have h1 := HBx0ltg1 _ h; omega) (HBx0 _ mC)
          have HBx1z' : w8.heap.size < w20.heap.size := Nat.lt_of_lt_of_le (Nat.lt_of_lt_of_le HBx1z (More.size (show More _ _ from mC))) T20.size
          have HBx1k := tc3 T20 (Nat.lt_of_lt_of_le HBx1z (More.size (show More _ _ from mC))) (fun h => by have h1 := HBx1ltg1 _ h; omega) (HBx1 _ mC)
          have HBg1z' : w9.heap.size < w20.heap.size := Nat.lt_of_lt_of_le (Nat.lt_of_lt_of_le HBg1z (More.size (show More _ _ from mC))) T20.size
          have HBg1k := tc3 T20 (Nat.lt_of_lt_of_le HBg1z (More.size (show More _ _ from mC))) (fun h => by have h1 := HBg1geg1; have h2 := tRat.own_lt G1 _ h; omega) (HBg1 _ mC)
          have HBg2z' : w9.heap.size + 1 < w20.heap.size := Nat.lt_of_lt_of_le (Nat.lt_of_lt_of_le HBg2z (More.size (show More _ _ from mC))) T20.size
          have HBg2k := tc3 T20 (Nat.lt_of_lt_of_le HBg2z (More.size (show More _ _ from mC))) (fun h => by have h1 := HBg2geg1; have h2 := tRat.own_lt G1 _ h; omega) (HBg2 _ mC)
          have b20 := More.turn (b17.trans mC) T20 (fun k hk => Nat.le_trans (More.size (b7.trans mC)) (lg1 k hk))
          try clear HBa0_19
          try clear HBa0s19
          clear HBa0
          have HBa0 := fun (w' : World) (h : More w20 w') => range_keep h HBa0z' HBa0k
          try clear HBa0z
          have HBa0z := HBa0z'; clear HBa0z' HBa0k
          have HBa0_20 := HBa0 w20 (More.refl _)
          have HBa0s20 := HBa0z
          try clear HBa1_19
          try clear HBa1s19
          clear HBa1
          have HBa1 := fun (w' : World) (h : More w20 w') => kp3 h HBa1z' HBa1k
          try clear HBa1z
          have HBa1z := HBa1z'; clear HBa1z' HBa1k
          have HBa1_20 := HBa1 w20 (More.refl _)
          have HBa1s20 := HBa1z
          try clear HBy1_19
          try clear HBy1s19
          clear HBy1
          have HBy1 := fun (w' : World) (h : More w20 w') => kp3 h HBy1z' HBy1k
          try clear HBy1z
          have HBy1z := HBy1z'; clear HBy1z' HBy1k
          have HBy1_20 := HBy1 w20 (More.refl _)
          have HBy1s20 := HBy1z
          try clear HBy2_19
          try clear HBy2s19
          clear HBy2
          have HBy2 := fun (w' : World) (h : More w20 w') => kp3 h HBy2z' HBy2k
          try clear HBy2z
          have HBy2z := HBy2z'; clear HBy2z' HBy2k
          have HBy2_20 := HBy2 w20 (More.refl _)
          have HBy2s20 := HBy2z
          try clear HBx0_19
          try clear HBx0s19
          clear HBx0
          have HBx0 := fun (w' : World) (h : More w20 w') => range_keep h HBx0z' HBx0k
          try clear HBx0z
          have HBx0z := HBx0z'; clear HBx0z' HBx0k
          have HBx0_20 := HBx0 w20 (More.refl _)
          have HBx0s20 := HBx0z
          try clear HBx1_19
          try clear HBx1s19
          clear HBx1
          have HBx1 := fun (w' : World) (h : More w20 w') => kp3 h HBx1z' HBx1k
          try clear HBx1z
          have HBx1z := HBx1z'; clear HBx1z' HBx1k
          have HBx1_20 := HBx1 w20 (More.refl _)
          have HBx1s20 := HBx1z
          try clear HBg1_19
          try clear HBg1s19
          clear HBg1
          have HBg1 := fun (w' : World) (h : More w20 w') => kp3 h HBg1z' HBg1k
          try clear HBg1z
          have HBg1z := HBg1z'; clear HBg1z' HBg1k
          have HBg1_20 := HBg1 w20 (More.refl _)
          have HBg1s20 := HBg1z
          try clear HBg2_19
          try clear HBg2s19
          clear HBg2
          have HBg2 := fun (w' : World) (h : More w20 w') => kp3 h HBg2z' HBg2k
          try clear HBg2z
          have HBg2z := HBg2z'; clear HBg2z' HBg2k
          have HBg2_20 := HBg2 w20 (More.refl _)
          have HBg2s20 := HBg2z
          have k20 : 0 ≤ (1 : Int) + ((cRat r1 : Nat) : Int) := by omega
          go_wp2_with (first | (refine wpList_load_mid rfl _ _ rfl (W.heap.size) 0 rfl _ _ (HBa0 _ mC) Try.underlying50 rfl (by kernel_rfl) ?_) | (refine wpList_load_mid rfl _ _ rfl (w7.heap.size) 0 rfl _ _ (HBx0 _ mC) Try.underlying59 rfl (by kernel_rfl) ?_))
          as_aux_lemma =>
           refine (laws_markRat_ bg2 _ r2 _ _ (Ty.own_more g2o20 mC) ng2 (by omega) (by have h09 := HC0.out; have h19 := HC1.out; have hr19 := HrC1.out; have := HrC2.out; omega) HrL2.out).mono ?_
           rintro e w21 ⟨rfl, T21, M21⟩
           have g1o21 := Ty.own_turns (Ty.own_more M20 mC) T21 (fun k hk hk' => dj k hk hk')
           have HBa0z' : W.heap.size < w21.heap.size := Nat.lt_of_lt_of_le (Nat.lt_of_lt_of_le HBa0z (More.size (show More _ _ from mC))) T21.size
           have HBa0k := range_turn T21 (Nat.lt_of_lt_of_le HBa0z (More.size (show More _ _ from mC))) (fun h => by have h1 := HBa0ltg2 _ h; omega) (HBa0 _ mC)
           have HBa1z' : W.heap.size + 1 < w21.heap.size := Nat.lt_of_lt_of_le (Nat.lt_of_lt_of_le HBa1z (More.size (show More _ _ from mC))) T21.size
           have HBa1k := tc3 T21 (Nat.lt_of_lt_of_le HBa1z (More.size (show More _ _ from mC))) (fun h => by have h1 := HBa1ltg2 _ h; omega) (HBa1 _ mC)
           have HBy1z' : py < w21.heap.size := Nat.lt_of_lt_of_le (Nat.lt_of_lt_of_le HBy1z (More.size (show More _ _ from mC))) T21.size
           have HBy1k := tc3 T21 (Nat.lt_of_lt_of_le HBy1z (More.size (show More _ _ from mC))) (fun h => by have h1 := HBy1ltg2 _ h; omega) (HBy1 _ mC)
           have HBy2z' : qy < w21.heap.size := Nat.lt_of_lt_of_le (Nat.lt_of_lt_of_le HBy2z (More.size (show More _ _ from mC))) T21.size
           have HBy2k := tc3 T21 (Nat.lt_of_lt_of_le HBy2z (More.size (show More _ _ from mC))) (fun h => by have h1 := HBy2ltg2 _ h; omega) (HBy2 _ mC)
           have HBx0z' : w7.heap.size < w21.heap.size := Nat.lt_of_lt_of_le (Nat.lt_of_lt_of_le HBx0z (More.size (show More _ _ from mC))) T21.size
           have HBx0k := range_turn T21 (Nat.lt_of_lt_of_le HBx0z (More.size (show More _ _ from mC))) (fun h => by have h1 := HBx0ltg2 _ h; omega) (HBx0 _ mC)
           have HBx1z' : w8.heap.size < w21.heap.size := Nat.lt_of_lt_of_le (Nat.lt_of_lt_of_le HBx1z (More.size (show More _ _ from mC))) T21.size
           have HBx1k := tc3 T21 (Nat.lt_of_lt_of_le HBx1z (More.size (show More _ _ from mC))) (fun h => by have h1 := HBx1ltg2 _ h; omega) (HBx1 _ mC)
           have HBg1z' : w9.heap.size < w21.heap.size := Nat.lt_of_lt_of_le (Nat.lt_of_lt_of_le HBg1z (More.size (show More _ _ from mC))) T21.size
           have HBg1k := tc3 T21 (Nat.lt_of_lt_of_le HBg1z (More.size (show More _ _ from mC))) (fun h => by have h1 := HBg1geg2; have h2 := tRat.own_lt G2 _ h; omega) (HBg1 _ mC)
           have HBg2z' : w9.heap.size + 1 < w21.heap.size := Nat.lt_of_lt_of_le (Nat.lt_of_lt_of_le HBg2z (More.size (show More _ _ from mC))) T21.size
           have HBg2k := tc3 T21 (Nat.lt_of_lt_of_le HBg2z (More.size (show More _ _ from mC))) (fun h => by have h1 := HBg2geg2; have h2 := tRat.own_lt G2 _ h; omega) (HBg2 _ mC)
           have b21 := More.turn (b20.trans mC) T21 (fun k hk => Nat.le_trans (More.size (b7.trans mC)) (lg2 k hk))
           try clear HBa0_20
           try clear HBa0s20
           clear HBa0
           have HBa0 := fun (w' : World) (h : More w21 w') => range_keep h HBa0z' HBa0k
           try clear HBa0z
           have HBa0z := HBa0z'; clear HBa0z' HBa0k
           have HBa0_21 := HBa0 w21 (More.refl _)
           have HBa0s21 := HBa0z
           try clear HBa1_20
           try clear HBa1s20
           clear HBa1
           have HBa1 := fun (w' : World) (h : More w21 w') => kp3 h HBa1z' HBa1k
           try clear HBa1z
           have HBa1z := HBa1z'; clear HBa1z' HBa1k
           have HBa1_21 := HBa1 w21 (More.refl _)
           have HBa1s21 := HBa1z
           try clear HBy1_20
           try clear HBy1s20
           clear HBy1
           have HBy1 := fun (w' : World) (h : More w21 w') => kp3 h HBy1z' HBy1k
           try clear HBy1z
           have HBy1z := HBy1z'; clear HBy1z' HBy1k
           have HBy1_21 := HBy1 w21 (More.refl _)
           have HBy1s21 := HBy1z
           try clear HBy2_20
           try clear HBy2s20
           clear HBy2
           have HBy2 := fun (w' : World) (h : More w21 w') => kp3 h HBy2z' HBy2k
           try clear HBy2z
           have HBy2z := HBy2z'; clear HBy2z' HBy2k
           have HBy2_21 := HBy2 w21 (More.refl _)
           have HBy2s21 := HBy2z
           try clear HBx0_20
           try clear HBx0s20
           clear HBx0
           have HBx0 := fun (w' : World) (h : More w21 w') => range_keep h HBx0z' HBx0k
           try clear HBx0z
           have HBx0z := HBx0z'; clear HBx0z' HBx0k
           have HBx0_21 := HBx0 w21 (More.refl _)
           have HBx0s21 := HBx0z
           try clear HBx1_20
           try clear HBx1s20
           clear HBx1
           have HBx1 := fun (w' : World) (h : More w21 w') => kp3 h HBx1z' HBx1k
           try clear HBx1z
           have HBx1z := HBx1z'; clear HBx1z' HBx1k
           have HBx1_21 := HBx1 w21 (More.refl _)
           have HBx1s21 := HBx1z
           try clear HBg1_20
           try clear HBg1s20
           clear HBg1
           have HBg1 := fun (w' : World) (h : More w21 w') => kp3 h HBg1z' HBg1k
           try clear HBg1z
           have HBg1z := HBg1z'; clear HBg1z' HBg1k
           have HBg1_21 := HBg1 w21 (More.refl _)
           have HBg1s21 := HBg1z
           try clear HBg2_20
           try clear HBg2s20
           clear HBg2
           have HBg2 := fun (w' : World) (h : More w21 w') => kp3 h HBg2z' HBg2k
           try clear HBg2z
           have HBg2z := HBg2z'; clear HBg2z' HBg2k
           have HBg2_21 := HBg2 w21 (More.refl _)
           have HBg2s21 := HBg2z
           go_wp2_with (first | (refine wpList_load_mid rfl _ _ rfl (W.heap.size) 0 rfl _ _ (HBa0 _ mC) Try.underlying50 rfl (by kernel_rfl) ?_) | (refine wpList_load_mid rfl _ _ rfl (w7.heap.size) 0 rfl _ _ (HBx0 _ mC) Try.underlying59 rfl (by kernel_rfl) ?_))
           as_aux_lemma =>
            refine (laws_heldRat_ _ r1 _ _ (Ty.at_more (Ty.rd_at (tRat.own_rd g1o21)) mC) (by decide) (by have h1 := HrC1.out; have h2 := HrC2.out; omega) HrL1.out).mono ?_
            rintro e w22 ⟨rfl, b22⟩
            have HBa0_22 := HBa0 w22 mC
            have HBa0s22 : W.heap.size < w22.heap.size := Nat.lt_of_lt_of_le HBa0z (More.size (show More _ w22 from mC))
            try clear HBa0_21
            try clear HBa0s21
            have HBa1_22 := HBa1 w22 mC
            have HBa1s22 : W.heap.size + 1 < w22.heap.size := Nat.lt_of_lt_of_le HBa1z (More.size (show More _ w22 from mC))
            try clear HBa1_21
            try clear HBa1s21
            have HBy1_22 := HBy1 w22 mC
            have HBy1s22 : py < w22.heap.size := Nat.lt_of_lt_of_le HBy1z (More.size (show More _ w22 from mC))
            try clear HBy1_21
            try clear HBy1s21
            have HBy2_22 := HBy2 w22 mC
            have HBy2s22 : qy < w22.heap.size := Nat.lt_of_lt_of_le HBy2z (More.size (show More _ w22 from mC))
            try clear HBy2_21
            try clear HBy2s21
            have HBx0_22 := HBx0 w22 mC
            have HBx0s22 : w7.heap.size < w22.heap.size := Nat.lt_of_lt_of_le HBx0z (More.size (show More _ w22 from mC))
            try clear HBx0_21
            try clear HBx0s21
            have HBx1_22 := HBx1 w22 mC
            have HBx1s22 : w8.heap.size < w22.heap.size := Nat.lt_of_lt_of_le HBx1z (More.size (show More _ w22 from mC))
            try clear HBx1_21
            try clear HBx1s21
            have HBg1_22 := HBg1 w22 mC
            have HBg1s22 : w9.heap.size < w22.heap.size := Nat.lt_of_lt_of_le HBg1z (More.size (show More _ w22 from mC))
            try clear HBg1_21
            try clear HBg1s21
            have HBg2_22 := HBg2 w22 mC
            have HBg2s22 : w9.heap.size + 1 < w22.heap.size := Nat.lt_of_lt_of_le HBg2z (More.size (show More _ w22 from mC))
            try clear HBg2_21
            try clear HBg2s21
            have q22 : ¬ ((1 : Int) + ((cRat r1 : Nat) : Int) < 0) := by omega
            have q22p : 0 ≤ (1 : Int) + ((cRat r1 : Nat) : Int) := by omega
            go_wp2_with (first | (refine wpList_load_mid rfl _ _ rfl (W.heap.size) 0 rfl _ _ (HBa0 _ mC) Try.underlying50 rfl (by kernel_rfl) ?_) | (refine wpList_load_mid rfl _ _ rfl (w7.heap.size) 0 rfl _ _ (HBx0 _ mC) Try.underlying59 rfl (by kernel_rfl) ?_))
            as_aux_lemma =>
             refine (laws_heldRat_ _ r2 _ _ (Ty.at_more (Ty.rd_at (tRat.own_rd M21)) mC) (by omega) (by have h1 := HrC1.out; have h2 := HrC2.out; omega) HrL2.out).mono ?_
             rintro e w23 ⟨rfl, b23⟩
             have HBa0_23 := HBa0 w23 mC
             have HBa0s23 : W.heap.size < w23.heap.size := Nat.lt_of_lt_of_le HBa0z (More.size (show More _ w23 from mC))
             try clear HBa0_22
             try clear HBa0s22
             have HBa1_23 := HBa1 w23 mC
             have HBa1s23 : W.heap.size + 1 < w23.heap.size := Nat.lt_of_lt_of_le HBa1z (More.size (show More _ w23 from mC))
             try clear HBa1_22
             try clear HBa1s22
             have HBy1_23 := HBy1 w23 mC
             have HBy1s23 : py < w23.heap.size := Nat.lt_of_lt_of_le HBy1z (More.size (show More _ w23 from mC))
             try clear HBy1_22
             try clear HBy1s22
             have HBy2_23 := HBy2 w23 mC
             have HBy2s23 : qy < w23.heap.size := Nat.lt_of_lt_of_le HBy2z (More.size (show More _ w23 from mC))
             try clear HBy2_22
             try clear HBy2s22
             have HBx0_23 := HBx0 w23 mC
             have HBx0s23 : w7.heap.size < w23.heap.size := Nat.lt_of_lt_of_le HBx0z (More.size (show More _ w23 from mC))
             try clear HBx0_22
             try clear HBx0s22
             have HBx1_23 := HBx1 w23 mC
             have HBx1s23 : w8.heap.size < w23.heap.size := Nat.lt_of_lt_of_le HBx1z (More.size (show More _ w23 from mC))
             try clear HBx1_22
             try clear HBx1s22
             have HBg1_23 := HBg1 w23 mC
             have HBg1s23 : w9.heap.size < w23.heap.size := Nat.lt_of_lt_of_le HBg1z (More.size (show More _ w23 from mC))
             try clear HBg1_22
             try clear HBg1s22
             have HBg2_23 := HBg2 w23 mC
             have HBg2s23 : w9.heap.size + 1 < w23.heap.size := Nat.lt_of_lt_of_le HBg2z (More.size (show More _ w23 from mC))
             try clear HBg2_22
             try clear HBg2s22
             have q23 : ¬ ((1 : Int) + ((cRat r1 : Nat) : Int) + ((cRat r2 : Nat) : Int) < 0) := by omega
             go_wp2_with (first | (refine wpList_load_mid rfl _ _ rfl (W.heap.size) 0 rfl _ _ (HBa0 _ mC) Try.underlying50 rfl (by kernel_rfl) ?_) | (refine wpList_load_mid rfl _ _ rfl (w7.heap.size) 0 rfl _ _ (HBx0 _ mC) Try.underlying59 rfl (by kernel_rfl) ?_))
             clear HBa0_23
             clear HBa1_23
             clear HBy1_23
             clear HBy2_23
             clear HBx0_23
             clear HBx1_23
             clear HBg1_23
             clear HBg2_23
             go_cut [17, 18, 19] (fun s1 s2 sf wx => ∃ (p q : Nat) (ha1 : Option Addr) (hn1 hc1 : Nat) (hd1 : Option Addr) (hm1 he1 : Nat) (ha2 : Option Addr) (hn2 hc2 : Nat) (hd2 : Option Addr) (hm2 he2 : Nat), s1 = .pointer (some ⟨p, 0, none⟩) ∧ s2 = .pointer (some ⟨q, 0, none⟩) ∧ sf = .bool f0 ∧ Two w23 wx p q (.bool r1.1.1) (.slice ha1 hn1 hc1) (.slice hd1 hm1 he1) r1 (.bool r2.1.1) (.slice ha2 hn2 hc2) (.slice hd2 hm2 he2) r2)
             case first =>
              refine csrB w23 x p (W.heap.size) (W.heap.size + 1) s0a1 s0n1 s0c1 s0a2 s0n2 s0c2 s0a4 s0n4 s0c4 s0a5 s0n5 s0c5 s0a7 s0n7 s0c7 s0a8 s0n8 s0c8 s0a10 s0n10 s0c10 s0a11 s0n11 s0c11 s0a13 s0n13 s0c13 s0a14 s0n14 s0c14 s0a16 s0n16 s0c16 s0a17 s0n17 s0c17 s1a1 s1n1 s1c1 s1a2 s1n2 s1c2 r1 r2 f0 (Lib.hid (Ty.at_more HV0.out mC)) Hs0 (Lib.hid (Ty.at_more HV1.out mC)) Hs1 ER1 ER2 EF0 (fun w' h => HBa0 w' (More.trans (show More _ w23 from mC) h)) (fun w' h => HBa1 w' (More.trans (show More _ w23 from mC) h)) (fun _ _ _ _ _ h => h) (fun u119 u120 u121 u122 u123 u124 u125 u126 u127 P9 Q9 ha1 hn1 hc1 hd1 hm1 he1 ha2 hn2 hc2 hd2 hm2 he2 w' hT => ?_)
              go_wp2_with fail
              go_meet
              exact ⟨P9, Q9, ha1, hn1, hc1, hd1, hm1, he1, ha2, hn2, hc2, hd2, hm2, he2, rfl, rfl, rfl, hT⟩
             case rest =>
             as_aux_lemma =>
              rename World => w27
              obtain ⟨ph, qh, ha1, hn1, hc1, hd1, hm1, he1, ha2, hn2, hc2, hd2, hm2, he2, rfl, rfl, rfl, hT⟩ := hcut
              obtain ⟨b27, hph, hqh, hnh, hBh1, hBh2, hFh⟩ := hT
              obtain ⟨_, _, f1, f2, n1, n2, _, l1, l2, _⟩ := hFh.out
              have Fh1 : tRat.fresh w23.heap.size w27 [.bool r1.1.1, .slice ha1 hn1 hc1, .slice hd1 hm1 he1] r1 := ⟨_, f1, n1, l1⟩
              clear f1 n1 l1
              have Fh2 : tRat.fresh w23.heap.size w27 [.bool r2.1.1, .slice ha2 hn2 hc2, .slice hd2 hm2 he2] r2 := ⟨_, f2, n2, l2⟩
              clear f2 n2 l2
              have HBa0_27 := HBa0 w27 mC
              have HBa0s27 : W.heap.size < w27.heap.size := Nat.lt_of_lt_of_le HBa0z (More.size (show More _ w27 from mC))
              try clear HBa0_26
              try clear HBa0s26
              have HBa1_27 := HBa1 w27 mC
              have HBa1s27 : W.heap.size + 1 < w27.heap.size := Nat.lt_of_lt_of_le HBa1z (More.size (show More _ w27 from mC))
              try clear HBa1_26
              try clear HBa1s26
              have HBy1_27 := HBy1 w27 mC
              have HBy1s27 : py < w27.heap.size := Nat.lt_of_lt_of_le HBy1z (More.size (show More _ w27 from mC))
              try clear HBy1_26
              try clear HBy1s26
              have HBy2_27 := HBy2 w27 mC
              have HBy2s27 : qy < w27.heap.size := Nat.lt_of_lt_of_le HBy2z (More.size (show More _ w27 from mC))
              try clear HBy2_26
              try clear HBy2s26
              have HBx0_27 := HBx0 w27 mC
              have HBx0s27 : w7.heap.size < w27.heap.size := Nat.lt_of_lt_of_le HBx0z (More.size (show More _ w27 from mC))
              try clear HBx0_26
              try clear HBx0s26
              have HBx1_27 := HBx1 w27 mC
              have HBx1s27 : w8.heap.size < w27.heap.size := Nat.lt_of_lt_of_le HBx1z (More.size (show More _ w27 from mC))
              try clear HBx1_26
              try clear HBx1s26
              have HBg1_27 := HBg1 w27 mC
              have HBg1s27 : w9.heap.size < w27.heap.size := Nat.lt_of_lt_of_le HBg1z (More.size (show More _ w27 from mC))
              try clear HBg1_26
              try clear HBg1s26
              have HBg2_27 := HBg2 w27 mC
              have HBg2s27 : w9.heap.size + 1 < w27.heap.size := Nat.lt_of_lt_of_le HBg2z (More.size (show More _ w27 from mC))
              try clear HBg2_26
              try clear HBg2s26
              have HBh1 : ∀ w', More w27 w' → w'.cell? ⟨ph, 0, none⟩ = some (.bool r1.1.1) ∧ w'.cell? ⟨ph, 1, none⟩ = some (.slice ha1 hn1 hc1) ∧ w'.cell? ⟨ph, 2, none⟩ = some (.slice hd1 hm1 he1) := fun w' h => ⟨(hBh1.keep h).c0, (hBh1.keep h).c1, (hBh1.keep h).c2⟩
              have HBh1z := hBh1.lt
              have HBh1_27 := HBh1 w27 (More.refl _)
              have HBh1s27 := HBh1z
              have HBh2 : ∀ w', More w27 w' → w'.cell? ⟨qh, 0, none⟩ = some (.bool r2.1.1) ∧ w'.cell? ⟨qh, 1, none⟩ = some (.slice ha2 hn2 hc2) ∧ w'.cell? ⟨qh, 2, none⟩ = some (.slice hd2 hm2 he2) := fun w' h => ⟨(hBh2.keep h).c0, (hBh2.keep h).c1, (hBh2.keep h).c2⟩
              have HBh2z := hBh2.lt
              have HBh2_27 := HBh2 w27 (More.refl _)
              have HBh2s27 := HBh2z
              go_wp2_with (first | (refine wpList_load_mid rfl _ _ rfl (W.heap.size) 0 rfl _ _ (HBa0 _ mC) Try.underlying50 rfl (by kernel_rfl) ?_) | (refine wpList_load_mid rfl _ _ rfl (w7.heap.size) 0 rfl _ _ (HBx0 _ mC) Try.underlying59 rfl (by kernel_rfl) ?_))
              as_aux_lemma =>
               refine (laws_eqRat _ _ r1 _ (Ty.at_more (Ty.fresh_at Fh1) mC) (Ty.at_more (Ty.fresh_at Fy1) mC) HrL1.out).mono ?_
               rintro e w28 ⟨rfl, b28⟩
               have HBa0_28 := HBa0 w28 mC
               have HBa0s28 : W.heap.size < w28.heap.size := Nat.lt_of_lt_of_le HBa0z (More.size (show More _ w28 from mC))
               try clear HBa0_27
               try clear HBa0s27
               have HBa1_28 := HBa1 w28 mC
               have HBa1s28 : W.heap.size + 1 < w28.heap.size := Nat.lt_of_lt_of_le HBa1z (More.size (show More _ w28 from mC))
               try clear HBa1_27
               try clear HBa1s27
               have HBy1_28 := HBy1 w28 mC
               have HBy1s28 : py < w28.heap.size := Nat.lt_of_lt_of_le HBy1z (More.size (show More _ w28 from mC))
               try clear HBy1_27
               try clear HBy1s27
               have HBy2_28 := HBy2 w28 mC
               have HBy2s28 : qy < w28.heap.size := Nat.lt_of_lt_of_le HBy2z (More.size (show More _ w28 from mC))
               try clear HBy2_27
               try clear HBy2s27
               have HBx0_28 := HBx0 w28 mC
               have HBx0s28 : w7.heap.size < w28.heap.size := Nat.lt_of_lt_of_le HBx0z (More.size (show More _ w28 from mC))
               try clear HBx0_27
               try clear HBx0s27
               have HBx1_28 := HBx1 w28 mC
               have HBx1s28 : w8.heap.size < w28.heap.size := Nat.lt_of_lt_of_le HBx1z (More.size (show More _ w28 from mC))
               try clear HBx1_27
               try clear HBx1s27
               have HBg1_28 := HBg1 w28 mC
               have HBg1s28 : w9.heap.size < w28.heap.size := Nat.lt_of_lt_of_le HBg1z (More.size (show More _ w28 from mC))
               try clear HBg1_27
               try clear HBg1s27
               have HBg2_28 := HBg2 w28 mC
               have HBg2s28 : w9.heap.size + 1 < w28.heap.size := Nat.lt_of_lt_of_le HBg2z (More.size (show More _ w28 from mC))
               try clear HBg2_27
               try clear HBg2s27
               have HBh1_28 := HBh1 w28 mC
               have HBh1s28 : ph < w28.heap.size := Nat.lt_of_lt_of_le HBh1z (More.size (show More _ w28 from mC))
               try clear HBh1_27
               try clear HBh1s27
               have HBh2_28 := HBh2 w28 mC
               have HBh2s28 : qh < w28.heap.size := Nat.lt_of_lt_of_le HBh2z (More.size (show More _ w28 from mC))
               try clear HBh2_27
               try clear HBh2s27
               go_wp2_with (first | (refine wpList_load_mid rfl _ _ rfl (W.heap.size) 0 rfl _ _ (HBa0 _ mC) Try.underlying50 rfl (by kernel_rfl) ?_) | (refine wpList_load_mid rfl _ _ rfl (w7.heap.size) 0 rfl _ _ (HBx0 _ mC) Try.underlying59 rfl (by kernel_rfl) ?_))
               refine (laws_eqRat _ _ r2 _ (Ty.at_more (Ty.fresh_at Fh2) mC) (Ty.at_more (Ty.fresh_at Fy2) mC) HrL2.out).mono ?_
               rintro e w29 ⟨rfl, b29⟩
               have HBa0_29 := HBa0 w29 mC
               have HBa0s29 : W.heap.size < w29.heap.size := Nat.lt_of_lt_of_le HBa0z (More.size (show More _ w29 from mC))
               try clear HBa0_28
               try clear HBa0s28
               have HBa1_29 := HBa1 w29 mC
               have HBa1s29 : W.heap.size + 1 < w29.heap.size := Nat.lt_of_lt_of_le HBa1z (More.size (show More _ w29 from mC))
               try clear HBa1_28
               try clear HBa1s28
               have HBy1_29 := HBy1 w29 mC
               have HBy1s29 : py < w29.heap.size := Nat.lt_of_lt_of_le HBy1z (More.size (show More _ w29 from mC))
               try clear HBy1_28
               try clear HBy1s28
               have HBy2_29 := HBy2 w29 mC
               have HBy2s29 : qy < w29.heap.size := Nat.lt_of_lt_of_le HBy2z (More.size (show More _ w29 from mC))
               try clear HBy2_28
               try clear HBy2s28
               have HBx0_29 := HBx0 w29 mC
               have HBx0s29 : w7.heap.size < w29.heap.size := Nat.lt_of_lt_of_le HBx0z (More.size (show More _ w29 from mC))
               try clear HBx0_28
               try clear HBx0s28
               have HBx1_29 := HBx1 w29 mC
               have HBx1s29 : w8.heap.size < w29.heap.size := Nat.lt_of_lt_of_le HBx1z (More.size (show More _ w29 from mC))
               try clear HBx1_28
               try clear HBx1s28
               have HBg1_29 := HBg1 w29 mC
               have HBg1s29 : w9.heap.size < w29.heap.size := Nat.lt_of_lt_of_le HBg1z (More.size (show More _ w29 from mC))
               try clear HBg1_28
               try clear HBg1s28
               have HBg2_29 := HBg2 w29 mC
               have HBg2s29 : w9.heap.size + 1 < w29.heap.size := Nat.lt_of_lt_of_le HBg2z (More.size (show More _ w29 from mC))
               try clear HBg2_28
               try clear HBg2s28
               have HBh1_29 := HBh1 w29 mC
               have HBh1s29 : ph < w29.heap.size := Nat.lt_of_lt_of_le HBh1z (More.size (show More _ w29 from mC))
               try clear HBh1_28
               try clear HBh1s28
               have HBh2_29 := HBh2 w29 mC
               have HBh2s29 : qh < w29.heap.size := Nat.lt_of_lt_of_le HBh2z (More.size (show More _ w29 from mC))
               try clear HBh2_28
               try clear HBh2s28
               go_wp2_with (first | (refine wpList_load_mid rfl _ _ rfl (W.heap.size) 0 rfl _ _ (HBa0 _ mC) Try.underlying50 rfl (by kernel_rfl) ?_) | (refine wpList_load_mid rfl _ _ rfl (w7.heap.size) 0 rfl _ _ (HBx0 _ mC) Try.underlying59 rfl (by kernel_rfl) ?_))
               as_aux_lemma =>
                refine (laws_heldRat_ _ r1 _ _ (Ty.at_more (Ty.rd_at (tRat.own_rd g1o21)) mC) (by decide) (by have h1 := HrC1.out; have h2 := HrC2.out; omega) HrL1.out).mono ?_
                rintro e w30 ⟨rfl, b30⟩
                have HBa0_30 := HBa0 w30 mC
                have HBa0s30 : W.heap.size < w30.heap.size := Nat.lt_of_lt_of_le HBa0z (More.size (show More _ w30 from mC))
                try clear HBa0_29
                try clear HBa0s29
                have HBa1_30 := HBa1 w30 mC
                have HBa1s30 : W.heap.size + 1 < w30.heap.size := Nat.lt_of_lt_of_le HBa1z (More.size (show More _ w30 from mC))
                try clear HBa1_29
                try clear HBa1s29
                have HBy1_30 := HBy1 w30 mC
                have HBy1s30 : py < w30.heap.size := Nat.lt_of_lt_of_le HBy1z (More.size (show More _ w30 from mC))
                try clear HBy1_29
                try clear HBy1s29
                have HBy2_30 := HBy2 w30 mC
                have HBy2s30 : qy < w30.heap.size := Nat.lt_of_lt_of_le HBy2z (More.size (show More _ w30 from mC))
                try clear HBy2_29
                try clear HBy2s29
                have HBx0_30 := HBx0 w30 mC
                have HBx0s30 : w7.heap.size < w30.heap.size := Nat.lt_of_lt_of_le HBx0z (More.size (show More _ w30 from mC))
                try clear HBx0_29
                try clear HBx0s29
                have HBx1_30 := HBx1 w30 mC
                have HBx1s30 : w8.heap.size < w30.heap.size := Nat.lt_of_lt_of_le HBx1z (More.size (show More _ w30 from mC))
                try clear HBx1_29
                try clear HBx1s29
                have HBg1_30 := HBg1 w30 mC
                have HBg1s30 : w9.heap.size < w30.heap.size := Nat.lt_of_lt_of_le HBg1z (More.size (show More _ w30 from mC))
                try clear HBg1_29
                try clear HBg1s29
                have HBg2_30 := HBg2 w30 mC
                have HBg2s30 : w9.heap.size + 1 < w30.heap.size := Nat.lt_of_lt_of_le HBg2z (More.size (show More _ w30 from mC))
                try clear HBg2_29
                try clear HBg2s29
                have HBh1_30 := HBh1 w30 mC
                have HBh1s30 : ph < w30.heap.size := Nat.lt_of_lt_of_le HBh1z (More.size (show More _ w30 from mC))
                try clear HBh1_29
                try clear HBh1s29
                have HBh2_30 := HBh2 w30 mC
                have HBh2s30 : qh < w30.heap.size := Nat.lt_of_lt_of_le HBh2z (More.size (show More _ w30 from mC))
                try clear HBh2_29
                try clear HBh2s29
                have q30 : ¬ ((1 : Int) + ((cRat r1 : Nat) : Int) < 0) := by omega
                have q30p : 0 ≤ (1 : Int) + ((cRat r1 : Nat) : Int) := by omega
                go_wp2_with (first | (refine wpList_load_mid rfl _ _ rfl (W.heap.size) 0 rfl _ _ (HBa0 _ mC) Try.underlying50 rfl (by kernel_rfl) ?_) | (refine wpList_load_mid rfl _ _ rfl (w7.heap.size) 0 rfl _ _ (HBx0 _ mC) Try.underlying59 rfl (by kernel_rfl) ?_))
                as_aux_lemma =>
                 refine (laws_heldRat_ _ r2 _ _ (Ty.at_more (Ty.rd_at (tRat.own_rd M21)) mC) (by omega) (by have h1 := HrC1.out; have h2 := HrC2.out; omega) HrL2.out).mono ?_
                 rintro e w31 ⟨rfl, b31⟩
                 have HBa0_31 := HBa0 w31 mC
                 have HBa0s31 : W.heap.size < w31.heap.size := Nat.lt_of_lt_of_le HBa0z (More.size (show More _ w31 from mC))
                 try clear HBa0_30
                 try clear HBa0s30
                 have HBa1_31 := HBa1 w31 mC
                 have HBa1s31 : W.heap.size + 1 < w31.heap.size := Nat.lt_of_lt_of_le HBa1z (More.size (show More _ w31 from mC))
                 try clear HBa1_30
                 try clear HBa1s30
                 have HBy1_31 := HBy1 w31 mC
                 have HBy1s31 : py < w31.heap.size := Nat.lt_of_lt_of_le HBy1z (More.size (show More _ w31 from mC))
                 try clear HBy1_30
                 try clear HBy1s30
                 have HBy2_31 := HBy2 w31 mC
                 have HBy2s31 : qy < w31.heap.size := Nat.lt_of_lt_of_le HBy2z (More.size (show More _ w31 from mC))
                 try clear HBy2_30
                 try clear HBy2s30
                 have HBx0_31 := HBx0 w31 mC
                 have HBx0s31 : w7.heap.size < w31.heap.size := Nat.lt_of_lt_of_le HBx0z (More.size (show More _ w31 from mC))
                 try clear HBx0_30
                 try clear HBx0s30
                 have HBx1_31 := HBx1 w31 mC
                 have HBx1s31 : w8.heap.size < w31.heap.size := Nat.lt_of_lt_of_le HBx1z (More.size (show More _ w31 from mC))
                 try clear HBx1_30
                 try clear HBx1s30
                 have HBg1_31 := HBg1 w31 mC
                 have HBg1s31 : w9.heap.size < w31.heap.size := Nat.lt_of_lt_of_le HBg1z (More.size (show More _ w31 from mC))
                 try clear HBg1_30
                 try clear HBg1s30
                 have HBg2_31 := HBg2 w31 mC
                 have HBg2s31 : w9.heap.size + 1 < w31.heap.size := Nat.lt_of_lt_of_le HBg2z (More.size (show More _ w31 from mC))
                 try clear HBg2_30
                 try clear HBg2s30
                 have HBh1_31 := HBh1 w31 mC
                 have HBh1s31 : ph < w31.heap.size := Nat.lt_of_lt_of_le HBh1z (More.size (show More _ w31 from mC))
                 try clear HBh1_30
                 try clear HBh1s30
                 have HBh2_31 := HBh2 w31 mC
                 have HBh2s31 : qh < w31.heap.size := Nat.lt_of_lt_of_le HBh2z (More.size (show More _ w31 from mC))
                 try clear HBh2_30
                 try clear HBh2s30
                 have q31 : ¬ ((1 : Int) + ((cRat r1 : Nat) : Int) + ((cRat r2 : Nat) : Int) < 0) := by omega
                 go_wp2_with (first | (refine wpList_load_mid rfl _ _ rfl (W.heap.size) 0 rfl _ _ (HBa0 _ mC) Try.underlying50 rfl (by kernel_rfl) ?_) | (refine wpList_load_mid rfl _ _ rfl (w7.heap.size) 0 rfl _ _ (HBx0 _ mC) Try.underlying59 rfl (by kernel_rfl) ?_))
                 go_ret
                 exact ⟨rfl, mC⟩
theorem law_CellSide {W : World} (ca0 : Array Value) (x : QCell) (hv0 : tCell.at W ca0.toList x) (ca1 : Array Value) (p : QR) (hv1 : tRat.at W ca1.toList p) :
    Calls Try.prog 4 #[.agg ca0, .agg ca1] W fun e w' => e = .returned (.bool true) ∧ More W w' := by
 by_cases hn0 : ((wCell x : Nat) : Int) ≤ 1048576
 · by_cases hn1 : ((wRat p : Nat) : Int) ≤ 1048576 - (wCell x : Nat)
   · exact cs_good ca0 x hv0 ca1 p hv1 hn0 hn1
   · exact cs_bad1 ca0 x hv0 ca1 p hv1 hn0 hn1
 · exact cs_bad0 ca0 x hv0 ca1 p hv1 hn0
end Go.Proofs.Ytnndjbomfcacfaa
