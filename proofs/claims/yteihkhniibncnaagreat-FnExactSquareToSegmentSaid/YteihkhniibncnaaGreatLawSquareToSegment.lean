/- FnExactSquareToSegment returns true, for every input. -/
import Derived.Test.YteihkhniibncnaaGreatTos
import Derived.Test.YteihkhniibncnaaGreatSzPoint
import Derived.Test.YteihkhniibncnaaGreatToPoint
import Derived.Test.YteihkhniibncnaaGreatEqPoint
import Derived.Test.YteihkhniibncnaaGreatGHelp
import Derived.Test.YteihkhniibncnaaGreatMkPoint
import Derived.Test.YteihkhniibncnaaGreatGMk
import Derived.Test.YteihkhniibncnaaGreatGCut
import Derived.Deep.RegionHeld3
namespace Go.Proofs.YteihkhniibncnaaGreat
open Go.RowKit
set_option maxRecDepth 8000 in
set_option maxHeartbeats 12800000 in
theorem law_SquareToSegment {W : World} (ca0 : Array Value) (a : QP) (hv0 : tPoint.at W ca0.toList a) (ca1 : Array Value) (b : QP) (hv1 : tPoint.at W ca1.toList b) (ca2 : Array Value) (c : QP) (hv2 : tPoint.at W ca2.toList c) :
    Calls Tryz.prog 6 #[.agg ca0, .agg ca1, .agg ca2] W fun e w' => e = .returned (.bool true) ∧ More W w' := by
  obtain ⟨s0a1, s0n1, s0c1, s0a2, s0n2, s0c2, s0a4, s0n4, s0c4, s0a5, s0n5, s0c5, es0⟩ := sh_Point hv0
  rw [es0] at hv0
  obtain rfl := arr_of es0
  clear es0
  have HV0 := Lib.hid hv0; clear hv0
  obtain ⟨s1a1, s1n1, s1c1, s1a2, s1n2, s1c2, s1a4, s1n4, s1c4, s1a5, s1n5, s1c5, es1⟩ := sh_Point hv1
  rw [es1] at hv1
  obtain rfl := arr_of es1
  clear es1
  have HV1 := Lib.hid hv1; clear hv1
  obtain ⟨s2a1, s2n1, s2c1, s2a2, s2n2, s2c2, s2a4, s2n4, s2c4, s2a5, s2n5, s2c5, es2⟩ := sh_Point hv2
  rw [es2] at hv2
  obtain rfl := arr_of es2
  clear es2
  have HV2 := Lib.hid hv2; clear hv2
  by_cases hn0 : ((wPoint a : Nat) : Int) ≤ 1048576
  rotate_left
  · have Hbad := Lib.hid hn0; clear hn0
    have HBa0 := fun (w' : World) (h : More (((W.alloc (.cells #[.bool a.1.1.1, .slice s0a1 s0n1 s0c1, .slice s0a2 s0n2 s0c2, .bool a.2.1.1, .slice s0a4 s0n4 s0c4, .slice s0a5 s0n5 s0c5] 68)).alloc (.cells #[.bool b.1.1.1, .slice s1a1 s1n1 s1c1, .slice s1a2 s1n2 s1c2, .bool b.2.1.1, .slice s1a4 s1n4 s1c4, .slice s1a5 s1n5 s1c5] 68)).alloc (.cells #[.bool c.1.1.1, .slice s2a1 s2n1 s2c1, .slice s2a2 s2n2 s2c2, .bool c.2.1.1, .slice s2a4 s2n4 s2c4, .slice s2a5 s2n5 s2c5] 68)) w') => nw6 (N := W.heap.size) (by simp) (More.un (More.un h))
    have HBa0S := Lib.hid (fun (w' : World) (h : More (((W.alloc (.cells #[.bool a.1.1.1, .slice s0a1 s0n1 s0c1, .slice s0a2 s0n2 s0c2, .bool a.2.1.1, .slice s0a4 s0n4 s0c4, .slice s0a5 s0n5 s0c5] 68)).alloc (.cells #[.bool b.1.1.1, .slice s1a1 s1n1 s1c1, .slice s1a2 s1n2 s1c2, .bool b.2.1.1, .slice s1a4 s1n4 s1c4, .slice s1a5 s1n5 s1c5] 68)).alloc (.cells #[.bool c.1.1.1, .slice s2a1 s2n1 s2c1, .slice s2a2 s2n2 s2c2, .bool c.2.1.1, .slice s2a4 s2n4 s2c4, .slice s2a5 s2n5 s2c5] 68)) w') => (by have := More.size h; simp at this; omega : W.heap.size < w'.heap.size))
    have HBa1 := fun (w' : World) (h : More (((W.alloc (.cells #[.bool a.1.1.1, .slice s0a1 s0n1 s0c1, .slice s0a2 s0n2 s0c2, .bool a.2.1.1, .slice s0a4 s0n4 s0c4, .slice s0a5 s0n5 s0c5] 68)).alloc (.cells #[.bool b.1.1.1, .slice s1a1 s1n1 s1c1, .slice s1a2 s1n2 s1c2, .bool b.2.1.1, .slice s1a4 s1n4 s1c4, .slice s1a5 s1n5 s1c5] 68)).alloc (.cells #[.bool c.1.1.1, .slice s2a1 s2n1 s2c1, .slice s2a2 s2n2 s2c2, .bool c.2.1.1, .slice s2a4 s2n4 s2c4, .slice s2a5 s2n5 s2c5] 68)) w') => nw6 (N := W.heap.size + 1) (by simp) (More.un h)
    have HBa1S := Lib.hid (fun (w' : World) (h : More (((W.alloc (.cells #[.bool a.1.1.1, .slice s0a1 s0n1 s0c1, .slice s0a2 s0n2 s0c2, .bool a.2.1.1, .slice s0a4 s0n4 s0c4, .slice s0a5 s0n5 s0c5] 68)).alloc (.cells #[.bool b.1.1.1, .slice s1a1 s1n1 s1c1, .slice s1a2 s1n2 s1c2, .bool b.2.1.1, .slice s1a4 s1n4 s1c4, .slice s1a5 s1n5 s1c5] 68)).alloc (.cells #[.bool c.1.1.1, .slice s2a1 s2n1 s2c1, .slice s2a2 s2n2 s2c2, .bool c.2.1.1, .slice s2a4 s2n4 s2c4, .slice s2a5 s2n5 s2c5] 68)) w') => (by have := More.size h; simp at this; omega : W.heap.size + 1 < w'.heap.size))
    have HBa2 := fun (w' : World) (h : More (((W.alloc (.cells #[.bool a.1.1.1, .slice s0a1 s0n1 s0c1, .slice s0a2 s0n2 s0c2, .bool a.2.1.1, .slice s0a4 s0n4 s0c4, .slice s0a5 s0n5 s0c5] 68)).alloc (.cells #[.bool b.1.1.1, .slice s1a1 s1n1 s1c1, .slice s1a2 s1n2 s1c2, .bool b.2.1.1, .slice s1a4 s1n4 s1c4, .slice s1a5 s1n5 s1c5] 68)).alloc (.cells #[.bool c.1.1.1, .slice s2a1 s2n1 s2c1, .slice s2a2 s2n2 s2c2, .bool c.2.1.1, .slice s2a4 s2n4 s2c4, .slice s2a5 s2n5 s2c5] 68)) w') => nw6 (N := W.heap.size + 1 + 1) (by simp) h
    have HBa2S := Lib.hid (fun (w' : World) (h : More (((W.alloc (.cells #[.bool a.1.1.1, .slice s0a1 s0n1 s0c1, .slice s0a2 s0n2 s0c2, .bool a.2.1.1, .slice s0a4 s0n4 s0c4, .slice s0a5 s0n5 s0c5] 68)).alloc (.cells #[.bool b.1.1.1, .slice s1a1 s1n1 s1c1, .slice s1a2 s1n2 s1c2, .bool b.2.1.1, .slice s1a4 s1n4 s1c4, .slice s1a5 s1n5 s1c5] 68)).alloc (.cells #[.bool c.1.1.1, .slice s2a1 s2n1 s2c1, .slice s2a2 s2n2 s2c2, .bool c.2.1.1, .slice s2a4 s2n4 s2c4, .slice s2a5 s2n5 s2c5] 68)) w') => (by have := More.size h; simp at this; omega : W.heap.size + 1 + 1 < w'.heap.size))
    go_enter Tryz.func6, Tryz.ntmps6
    go_wp2_with fail
    refine (laws_szPoint _ a _ _ (Ty.at_more HV0.out mC) (by decide) (by decide)).mono ?_
    rintro e w1 ⟨rfl, b1⟩
    have HBa0_1 := HBa0 w1 mC
    have HBa0s1 : W.heap.size < w1.heap.size := HBa0S.out _ mC
    have HBa1_1 := HBa1 w1 mC
    have HBa1s1 : W.heap.size + 1 < w1.heap.size := HBa1S.out _ mC
    have HBa2_1 := HBa2 w1 mC
    have HBa2s1 : W.heap.size + 1 + 1 < w1.heap.size := HBa2S.out _ mC
    rw [szI_neg (by have := Hbad.out; omega)]
    go_wp2_with fail
    go_ret
    exact ⟨rfl, mC⟩
  by_cases hn1 : ((wPoint b : Nat) : Int) ≤ 1048576 - (wPoint a : Nat)
  rotate_left
  · have Hbad := Lib.hid hn1; clear hn1
    have Hn0 := Lib.hid hn0; clear hn0
    have HBa0 := fun (w' : World) (h : More (((W.alloc (.cells #[.bool a.1.1.1, .slice s0a1 s0n1 s0c1, .slice s0a2 s0n2 s0c2, .bool a.2.1.1, .slice s0a4 s0n4 s0c4, .slice s0a5 s0n5 s0c5] 68)).alloc (.cells #[.bool b.1.1.1, .slice s1a1 s1n1 s1c1, .slice s1a2 s1n2 s1c2, .bool b.2.1.1, .slice s1a4 s1n4 s1c4, .slice s1a5 s1n5 s1c5] 68)).alloc (.cells #[.bool c.1.1.1, .slice s2a1 s2n1 s2c1, .slice s2a2 s2n2 s2c2, .bool c.2.1.1, .slice s2a4 s2n4 s2c4, .slice s2a5 s2n5 s2c5] 68)) w') => nw6 (N := W.heap.size) (by simp) (More.un (More.un h))
    have HBa0S := Lib.hid (fun (w' : World) (h : More (((W.alloc (.cells #[.bool a.1.1.1, .slice s0a1 s0n1 s0c1, .slice s0a2 s0n2 s0c2, .bool a.2.1.1, .slice s0a4 s0n4 s0c4, .slice s0a5 s0n5 s0c5] 68)).alloc (.cells #[.bool b.1.1.1, .slice s1a1 s1n1 s1c1, .slice s1a2 s1n2 s1c2, .bool b.2.1.1, .slice s1a4 s1n4 s1c4, .slice s1a5 s1n5 s1c5] 68)).alloc (.cells #[.bool c.1.1.1, .slice s2a1 s2n1 s2c1, .slice s2a2 s2n2 s2c2, .bool c.2.1.1, .slice s2a4 s2n4 s2c4, .slice s2a5 s2n5 s2c5] 68)) w') => (by have := More.size h; simp at this; omega : W.heap.size < w'.heap.size))
    have HBa1 := fun (w' : World) (h : More (((W.alloc (.cells #[.bool a.1.1.1, .slice s0a1 s0n1 s0c1, .slice s0a2 s0n2 s0c2, .bool a.2.1.1, .slice s0a4 s0n4 s0c4, .slice s0a5 s0n5 s0c5] 68)).alloc (.cells #[.bool b.1.1.1, .slice s1a1 s1n1 s1c1, .slice s1a2 s1n2 s1c2, .bool b.2.1.1, .slice s1a4 s1n4 s1c4, .slice s1a5 s1n5 s1c5] 68)).alloc (.cells #[.bool c.1.1.1, .slice s2a1 s2n1 s2c1, .slice s2a2 s2n2 s2c2, .bool c.2.1.1, .slice s2a4 s2n4 s2c4, .slice s2a5 s2n5 s2c5] 68)) w') => nw6 (N := W.heap.size + 1) (by simp) (More.un h)
    have HBa1S := Lib.hid (fun (w' : World) (h : More (((W.alloc (.cells #[.bool a.1.1.1, .slice s0a1 s0n1 s0c1, .slice s0a2 s0n2 s0c2, .bool a.2.1.1, .slice s0a4 s0n4 s0c4, .slice s0a5 s0n5 s0c5] 68)).alloc (.cells #[.bool b.1.1.1, .slice s1a1 s1n1 s1c1, .slice s1a2 s1n2 s1c2, .bool b.2.1.1, .slice s1a4 s1n4 s1c4, .slice s1a5 s1n5 s1c5] 68)).alloc (.cells #[.bool c.1.1.1, .slice s2a1 s2n1 s2c1, .slice s2a2 s2n2 s2c2, .bool c.2.1.1, .slice s2a4 s2n4 s2c4, .slice s2a5 s2n5 s2c5] 68)) w') => (by have := More.size h; simp at this; omega : W.heap.size + 1 < w'.heap.size))
    have HBa2 := fun (w' : World) (h : More (((W.alloc (.cells #[.bool a.1.1.1, .slice s0a1 s0n1 s0c1, .slice s0a2 s0n2 s0c2, .bool a.2.1.1, .slice s0a4 s0n4 s0c4, .slice s0a5 s0n5 s0c5] 68)).alloc (.cells #[.bool b.1.1.1, .slice s1a1 s1n1 s1c1, .slice s1a2 s1n2 s1c2, .bool b.2.1.1, .slice s1a4 s1n4 s1c4, .slice s1a5 s1n5 s1c5] 68)).alloc (.cells #[.bool c.1.1.1, .slice s2a1 s2n1 s2c1, .slice s2a2 s2n2 s2c2, .bool c.2.1.1, .slice s2a4 s2n4 s2c4, .slice s2a5 s2n5 s2c5] 68)) w') => nw6 (N := W.heap.size + 1 + 1) (by simp) h
    have HBa2S := Lib.hid (fun (w' : World) (h : More (((W.alloc (.cells #[.bool a.1.1.1, .slice s0a1 s0n1 s0c1, .slice s0a2 s0n2 s0c2, .bool a.2.1.1, .slice s0a4 s0n4 s0c4, .slice s0a5 s0n5 s0c5] 68)).alloc (.cells #[.bool b.1.1.1, .slice s1a1 s1n1 s1c1, .slice s1a2 s1n2 s1c2, .bool b.2.1.1, .slice s1a4 s1n4 s1c4, .slice s1a5 s1n5 s1c5] 68)).alloc (.cells #[.bool c.1.1.1, .slice s2a1 s2n1 s2c1, .slice s2a2 s2n2 s2c2, .bool c.2.1.1, .slice s2a4 s2n4 s2c4, .slice s2a5 s2n5 s2c5] 68)) w') => (by have := More.size h; simp at this; omega : W.heap.size + 1 + 1 < w'.heap.size))
    go_enter Tryz.func6, Tryz.ntmps6
    go_wp2_with fail
    refine (laws_szPoint _ a _ _ (Ty.at_more HV0.out mC) (by decide) (by decide)).mono ?_
    rintro e w1 ⟨rfl, b1⟩
    have HBa0_1 := HBa0 w1 mC
    have HBa0s1 : W.heap.size < w1.heap.size := HBa0S.out _ mC
    have HBa1_1 := HBa1 w1 mC
    have HBa1s1 : W.heap.size + 1 < w1.heap.size := HBa1S.out _ mC
    have HBa2_1 := HBa2 w1 mC
    have HBa2s1 : W.heap.size + 1 + 1 < w1.heap.size := HBa2S.out _ mC
    rw [szI_pos (by have := Hn0.out; omega)]
    have z0 : 0 ≤ (1048576 : Int) - (wPoint a : Nat) := by have := Hn0.out; omega
    go_wp2_with fail
    refine (laws_szPoint _ b _ _ (Ty.at_more HV1.out mC) (by have := Hn0.out; omega) (by omega)).mono ?_
    rintro e w2 ⟨rfl, b2⟩
    have HBa0_2 := HBa0 w2 mC
    have HBa0s2 : W.heap.size < w2.heap.size := HBa0S.out _ mC
    try clear HBa0_1
    try clear HBa0s1
    have HBa1_2 := HBa1 w2 mC
    have HBa1s2 : W.heap.size + 1 < w2.heap.size := HBa1S.out _ mC
    try clear HBa1_1
    try clear HBa1s1
    have HBa2_2 := HBa2 w2 mC
    have HBa2s2 : W.heap.size + 1 + 1 < w2.heap.size := HBa2S.out _ mC
    try clear HBa2_1
    try clear HBa2s1
    rw [szI_neg (by have := Hbad.out; omega)]
    go_wp2_with fail
    go_ret
    exact ⟨rfl, mC⟩
  by_cases hn2 : ((wPoint c : Nat) : Int) ≤ 1048576 - (wPoint a : Nat) - (wPoint b : Nat)
  rotate_left
  · have Hbad := Lib.hid hn2; clear hn2
    have Hn0 := Lib.hid hn0; clear hn0
    have Hn1 := Lib.hid hn1; clear hn1
    have HBa0 := fun (w' : World) (h : More (((W.alloc (.cells #[.bool a.1.1.1, .slice s0a1 s0n1 s0c1, .slice s0a2 s0n2 s0c2, .bool a.2.1.1, .slice s0a4 s0n4 s0c4, .slice s0a5 s0n5 s0c5] 68)).alloc (.cells #[.bool b.1.1.1, .slice s1a1 s1n1 s1c1, .slice s1a2 s1n2 s1c2, .bool b.2.1.1, .slice s1a4 s1n4 s1c4, .slice s1a5 s1n5 s1c5] 68)).alloc (.cells #[.bool c.1.1.1, .slice s2a1 s2n1 s2c1, .slice s2a2 s2n2 s2c2, .bool c.2.1.1, .slice s2a4 s2n4 s2c4, .slice s2a5 s2n5 s2c5] 68)) w') => nw6 (N := W.heap.size) (by simp) (More.un (More.un h))
    have HBa0S := Lib.hid (fun (w' : World) (h : More (((W.alloc (.cells #[.bool a.1.1.1, .slice s0a1 s0n1 s0c1, .slice s0a2 s0n2 s0c2, .bool a.2.1.1, .slice s0a4 s0n4 s0c4, .slice s0a5 s0n5 s0c5] 68)).alloc (.cells #[.bool b.1.1.1, .slice s1a1 s1n1 s1c1, .slice s1a2 s1n2 s1c2, .bool b.2.1.1, .slice s1a4 s1n4 s1c4, .slice s1a5 s1n5 s1c5] 68)).alloc (.cells #[.bool c.1.1.1, .slice s2a1 s2n1 s2c1, .slice s2a2 s2n2 s2c2, .bool c.2.1.1, .slice s2a4 s2n4 s2c4, .slice s2a5 s2n5 s2c5] 68)) w') => (by have := More.size h; simp at this; omega : W.heap.size < w'.heap.size))
    have HBa1 := fun (w' : World) (h : More (((W.alloc (.cells #[.bool a.1.1.1, .slice s0a1 s0n1 s0c1, .slice s0a2 s0n2 s0c2, .bool a.2.1.1, .slice s0a4 s0n4 s0c4, .slice s0a5 s0n5 s0c5] 68)).alloc (.cells #[.bool b.1.1.1, .slice s1a1 s1n1 s1c1, .slice s1a2 s1n2 s1c2, .bool b.2.1.1, .slice s1a4 s1n4 s1c4, .slice s1a5 s1n5 s1c5] 68)).alloc (.cells #[.bool c.1.1.1, .slice s2a1 s2n1 s2c1, .slice s2a2 s2n2 s2c2, .bool c.2.1.1, .slice s2a4 s2n4 s2c4, .slice s2a5 s2n5 s2c5] 68)) w') => nw6 (N := W.heap.size + 1) (by simp) (More.un h)
    have HBa1S := Lib.hid (fun (w' : World) (h : More (((W.alloc (.cells #[.bool a.1.1.1, .slice s0a1 s0n1 s0c1, .slice s0a2 s0n2 s0c2, .bool a.2.1.1, .slice s0a4 s0n4 s0c4, .slice s0a5 s0n5 s0c5] 68)).alloc (.cells #[.bool b.1.1.1, .slice s1a1 s1n1 s1c1, .slice s1a2 s1n2 s1c2, .bool b.2.1.1, .slice s1a4 s1n4 s1c4, .slice s1a5 s1n5 s1c5] 68)).alloc (.cells #[.bool c.1.1.1, .slice s2a1 s2n1 s2c1, .slice s2a2 s2n2 s2c2, .bool c.2.1.1, .slice s2a4 s2n4 s2c4, .slice s2a5 s2n5 s2c5] 68)) w') => (by have := More.size h; simp at this; omega : W.heap.size + 1 < w'.heap.size))
    have HBa2 := fun (w' : World) (h : More (((W.alloc (.cells #[.bool a.1.1.1, .slice s0a1 s0n1 s0c1, .slice s0a2 s0n2 s0c2, .bool a.2.1.1, .slice s0a4 s0n4 s0c4, .slice s0a5 s0n5 s0c5] 68)).alloc (.cells #[.bool b.1.1.1, .slice s1a1 s1n1 s1c1, .slice s1a2 s1n2 s1c2, .bool b.2.1.1, .slice s1a4 s1n4 s1c4, .slice s1a5 s1n5 s1c5] 68)).alloc (.cells #[.bool c.1.1.1, .slice s2a1 s2n1 s2c1, .slice s2a2 s2n2 s2c2, .bool c.2.1.1, .slice s2a4 s2n4 s2c4, .slice s2a5 s2n5 s2c5] 68)) w') => nw6 (N := W.heap.size + 1 + 1) (by simp) h
    have HBa2S := Lib.hid (fun (w' : World) (h : More (((W.alloc (.cells #[.bool a.1.1.1, .slice s0a1 s0n1 s0c1, .slice s0a2 s0n2 s0c2, .bool a.2.1.1, .slice s0a4 s0n4 s0c4, .slice s0a5 s0n5 s0c5] 68)).alloc (.cells #[.bool b.1.1.1, .slice s1a1 s1n1 s1c1, .slice s1a2 s1n2 s1c2, .bool b.2.1.1, .slice s1a4 s1n4 s1c4, .slice s1a5 s1n5 s1c5] 68)).alloc (.cells #[.bool c.1.1.1, .slice s2a1 s2n1 s2c1, .slice s2a2 s2n2 s2c2, .bool c.2.1.1, .slice s2a4 s2n4 s2c4, .slice s2a5 s2n5 s2c5] 68)) w') => (by have := More.size h; simp at this; omega : W.heap.size + 1 + 1 < w'.heap.size))
    go_enter Tryz.func6, Tryz.ntmps6
    go_wp2_with fail
    refine (laws_szPoint _ a _ _ (Ty.at_more HV0.out mC) (by decide) (by decide)).mono ?_
    rintro e w1 ⟨rfl, b1⟩
    have HBa0_1 := HBa0 w1 mC
    have HBa0s1 : W.heap.size < w1.heap.size := HBa0S.out _ mC
    have HBa1_1 := HBa1 w1 mC
    have HBa1s1 : W.heap.size + 1 < w1.heap.size := HBa1S.out _ mC
    have HBa2_1 := HBa2 w1 mC
    have HBa2s1 : W.heap.size + 1 + 1 < w1.heap.size := HBa2S.out _ mC
    rw [szI_pos (by have := Hn0.out; omega)]
    have z0 : 0 ≤ (1048576 : Int) - (wPoint a : Nat) := by have := Hn0.out; omega
    go_wp2_with fail
    refine (laws_szPoint _ b _ _ (Ty.at_more HV1.out mC) (by have := Hn0.out; omega) (by omega)).mono ?_
    rintro e w2 ⟨rfl, b2⟩
    have HBa0_2 := HBa0 w2 mC
    have HBa0s2 : W.heap.size < w2.heap.size := HBa0S.out _ mC
    try clear HBa0_1
    try clear HBa0s1
    have HBa1_2 := HBa1 w2 mC
    have HBa1s2 : W.heap.size + 1 < w2.heap.size := HBa1S.out _ mC
    try clear HBa1_1
    try clear HBa1s1
    have HBa2_2 := HBa2 w2 mC
    have HBa2s2 : W.heap.size + 1 + 1 < w2.heap.size := HBa2S.out _ mC
    try clear HBa2_1
    try clear HBa2s1
    rw [szI_pos (by have := Hn1.out; omega)]
    have z1 : 0 ≤ (1048576 : Int) - (wPoint a : Nat) - (wPoint b : Nat) := by have := Hn1.out; omega
    go_wp2_with fail
    refine (laws_szPoint _ c _ _ (Ty.at_more HV2.out mC) (by have := Hn1.out; omega) (by omega)).mono ?_
    rintro e w3 ⟨rfl, b3⟩
    have HBa0_3 := HBa0 w3 mC
    have HBa0s3 : W.heap.size < w3.heap.size := HBa0S.out _ mC
    try clear HBa0_2
    try clear HBa0s2
    have HBa1_3 := HBa1 w3 mC
    have HBa1s3 : W.heap.size + 1 < w3.heap.size := HBa1S.out _ mC
    try clear HBa1_2
    try clear HBa1s2
    have HBa2_3 := HBa2 w3 mC
    have HBa2s3 : W.heap.size + 1 + 1 < w3.heap.size := HBa2S.out _ mC
    try clear HBa2_2
    try clear HBa2s2
    rw [szI_neg (by have := Hbad.out; omega)]
    go_wp2_with fail
    go_ret
    exact ⟨rfl, mC⟩
  have Hn0 := Lib.hid hn0
  have Hn1 := Lib.hid hn1
  have Hn2 := Lib.hid hn2
  have Hs0 : Hid (wPoint a ≤ 1048576) := Lib.hid (by omega)
  have Hs1 : Hid (wPoint b ≤ 1048576) := Lib.hid (by omega)
  have Hs2 : Hid (wPoint c ≤ 1048576) := Lib.hid (by omega)
  clear hn0 hn1 hn2
  obtain ⟨r, er⟩ : ∃ r, r = encR (segF a b c) := ⟨_, rfl⟩
  have ER := Lib.hid er
  have HrL : Hid (wRat r ≤ 1048576) := Lib.hid (by rw [er]; exact segF_len a b c)
  clear er
  have HrC : Hid (cRat r ≤ 8388608) := Lib.hid (by have h := cRat_le r; have h2 := HrL.out; omega)
  have HC0 : Hid (cPoint a ≤ 8388608) := Lib.hid (by have h := cPoint_le a; have h2 := Hs0.out; omega)
  have HC1 : Hid (cPoint b ≤ 8388608) := Lib.hid (by have h := cPoint_le b; have h2 := Hs1.out; omega)
  have HC2 : Hid (cPoint c ≤ 8388608) := Lib.hid (by have h := cPoint_le c; have h2 := Hs2.out; omega)
  have HBa0 := fun (w' : World) (h : More (((W.alloc (.cells #[.bool a.1.1.1, .slice s0a1 s0n1 s0c1, .slice s0a2 s0n2 s0c2, .bool a.2.1.1, .slice s0a4 s0n4 s0c4, .slice s0a5 s0n5 s0c5] 68)).alloc (.cells #[.bool b.1.1.1, .slice s1a1 s1n1 s1c1, .slice s1a2 s1n2 s1c2, .bool b.2.1.1, .slice s1a4 s1n4 s1c4, .slice s1a5 s1n5 s1c5] 68)).alloc (.cells #[.bool c.1.1.1, .slice s2a1 s2n1 s2c1, .slice s2a2 s2n2 s2c2, .bool c.2.1.1, .slice s2a4 s2n4 s2c4, .slice s2a5 s2n5 s2c5] 68)) w') => nw6 (N := W.heap.size) (by simp) (More.un (More.un h))
  have HBa0S := Lib.hid (fun (w' : World) (h : More (((W.alloc (.cells #[.bool a.1.1.1, .slice s0a1 s0n1 s0c1, .slice s0a2 s0n2 s0c2, .bool a.2.1.1, .slice s0a4 s0n4 s0c4, .slice s0a5 s0n5 s0c5] 68)).alloc (.cells #[.bool b.1.1.1, .slice s1a1 s1n1 s1c1, .slice s1a2 s1n2 s1c2, .bool b.2.1.1, .slice s1a4 s1n4 s1c4, .slice s1a5 s1n5 s1c5] 68)).alloc (.cells #[.bool c.1.1.1, .slice s2a1 s2n1 s2c1, .slice s2a2 s2n2 s2c2, .bool c.2.1.1, .slice s2a4 s2n4 s2c4, .slice s2a5 s2n5 s2c5] 68)) w') => (by have := More.size h; simp at this; omega : W.heap.size < w'.heap.size))
  have HBa1 := fun (w' : World) (h : More (((W.alloc (.cells #[.bool a.1.1.1, .slice s0a1 s0n1 s0c1, .slice s0a2 s0n2 s0c2, .bool a.2.1.1, .slice s0a4 s0n4 s0c4, .slice s0a5 s0n5 s0c5] 68)).alloc (.cells #[.bool b.1.1.1, .slice s1a1 s1n1 s1c1, .slice s1a2 s1n2 s1c2, .bool b.2.1.1, .slice s1a4 s1n4 s1c4, .slice s1a5 s1n5 s1c5] 68)).alloc (.cells #[.bool c.1.1.1, .slice s2a1 s2n1 s2c1, .slice s2a2 s2n2 s2c2, .bool c.2.1.1, .slice s2a4 s2n4 s2c4, .slice s2a5 s2n5 s2c5] 68)) w') => nw6 (N := W.heap.size + 1) (by simp) (More.un h)
  have HBa1S := Lib.hid (fun (w' : World) (h : More (((W.alloc (.cells #[.bool a.1.1.1, .slice s0a1 s0n1 s0c1, .slice s0a2 s0n2 s0c2, .bool a.2.1.1, .slice s0a4 s0n4 s0c4, .slice s0a5 s0n5 s0c5] 68)).alloc (.cells #[.bool b.1.1.1, .slice s1a1 s1n1 s1c1, .slice s1a2 s1n2 s1c2, .bool b.2.1.1, .slice s1a4 s1n4 s1c4, .slice s1a5 s1n5 s1c5] 68)).alloc (.cells #[.bool c.1.1.1, .slice s2a1 s2n1 s2c1, .slice s2a2 s2n2 s2c2, .bool c.2.1.1, .slice s2a4 s2n4 s2c4, .slice s2a5 s2n5 s2c5] 68)) w') => (by have := More.size h; simp at this; omega : W.heap.size + 1 < w'.heap.size))
  have HBa2 := fun (w' : World) (h : More (((W.alloc (.cells #[.bool a.1.1.1, .slice s0a1 s0n1 s0c1, .slice s0a2 s0n2 s0c2, .bool a.2.1.1, .slice s0a4 s0n4 s0c4, .slice s0a5 s0n5 s0c5] 68)).alloc (.cells #[.bool b.1.1.1, .slice s1a1 s1n1 s1c1, .slice s1a2 s1n2 s1c2, .bool b.2.1.1, .slice s1a4 s1n4 s1c4, .slice s1a5 s1n5 s1c5] 68)).alloc (.cells #[.bool c.1.1.1, .slice s2a1 s2n1 s2c1, .slice s2a2 s2n2 s2c2, .bool c.2.1.1, .slice s2a4 s2n4 s2c4, .slice s2a5 s2n5 s2c5] 68)) w') => nw6 (N := W.heap.size + 1 + 1) (by simp) h
  have HBa2S := Lib.hid (fun (w' : World) (h : More (((W.alloc (.cells #[.bool a.1.1.1, .slice s0a1 s0n1 s0c1, .slice s0a2 s0n2 s0c2, .bool a.2.1.1, .slice s0a4 s0n4 s0c4, .slice s0a5 s0n5 s0c5] 68)).alloc (.cells #[.bool b.1.1.1, .slice s1a1 s1n1 s1c1, .slice s1a2 s1n2 s1c2, .bool b.2.1.1, .slice s1a4 s1n4 s1c4, .slice s1a5 s1n5 s1c5] 68)).alloc (.cells #[.bool c.1.1.1, .slice s2a1 s2n1 s2c1, .slice s2a2 s2n2 s2c2, .bool c.2.1.1, .slice s2a4 s2n4 s2c4, .slice s2a5 s2n5 s2c5] 68)) w') => (by have := More.size h; simp at this; omega : W.heap.size + 1 + 1 < w'.heap.size))
  go_enter Tryz.func6, Tryz.ntmps6
  go_wp2_with fail
  refine (laws_szPoint _ a _ _ (Ty.at_more HV0.out mC) (by decide) (by decide)).mono ?_
  rintro e w1 ⟨rfl, b1⟩
  have HBa0_1 := HBa0 w1 mC
  have HBa0s1 : W.heap.size < w1.heap.size := HBa0S.out _ mC
  have HBa1_1 := HBa1 w1 mC
  have HBa1s1 : W.heap.size + 1 < w1.heap.size := HBa1S.out _ mC
  have HBa2_1 := HBa2 w1 mC
  have HBa2s1 : W.heap.size + 1 + 1 < w1.heap.size := HBa2S.out _ mC
  rw [szI_pos (by have := Hn0.out; omega)]
  have z0 : 0 ≤ (1048576 : Int) - (wPoint a : Nat) := by have := Hn0.out; omega
  go_wp2_with fail
  refine (laws_szPoint _ b _ _ (Ty.at_more HV1.out mC) (by have := Hn0.out; omega) (by omega)).mono ?_
  rintro e w2 ⟨rfl, b2⟩
  have HBa0_2 := HBa0 w2 mC
  have HBa0s2 : W.heap.size < w2.heap.size := HBa0S.out _ mC
  try clear HBa0_1
  try clear HBa0s1
  have HBa1_2 := HBa1 w2 mC
  have HBa1s2 : W.heap.size + 1 < w2.heap.size := HBa1S.out _ mC
  try clear HBa1_1
  try clear HBa1s1
  have HBa2_2 := HBa2 w2 mC
  have HBa2s2 : W.heap.size + 1 + 1 < w2.heap.size := HBa2S.out _ mC
  try clear HBa2_1
  try clear HBa2s1
  rw [szI_pos (by have := Hn1.out; omega)]
  have z1 : 0 ≤ (1048576 : Int) - (wPoint a : Nat) - (wPoint b : Nat) := by have := Hn1.out; omega
  go_wp2_with fail
  refine (laws_szPoint _ c _ _ (Ty.at_more HV2.out mC) (by have := Hn1.out; omega) (by omega)).mono ?_
  rintro e w3 ⟨rfl, b3⟩
  have HBa0_3 := HBa0 w3 mC
  have HBa0s3 : W.heap.size < w3.heap.size := HBa0S.out _ mC
  try clear HBa0_2
  try clear HBa0s2
  have HBa1_3 := HBa1 w3 mC
  have HBa1s3 : W.heap.size + 1 < w3.heap.size := HBa1S.out _ mC
  try clear HBa1_2
  try clear HBa1s2
  have HBa2_3 := HBa2 w3 mC
  have HBa2s3 : W.heap.size + 1 + 1 < w3.heap.size := HBa2S.out _ mC
  try clear HBa2_2
  try clear HBa2s2
  rw [szI_pos (by have := Hn2.out; omega)]
  have z2 : 0 ≤ (1048576 : Int) - (wPoint a : Nat) - (wPoint b : Nat) - (wPoint c : Nat) := by have := Hn2.out; omega
  go_wp2_with fail
  have RHBa0 := fun (w' : World) (h : More w3 w') => HBa0 w' (More.trans (show More _ w3 from mC) h)
  clear HBa0_3
  have RHBa1 := fun (w' : World) (h : More w3 w') => HBa1 w' (More.trans (show More _ w3 from mC) h)
  clear HBa1_3
  have RHBa2 := fun (w' : World) (h : More w3 w') => HBa2 w' (More.trans (show More _ w3 from mC) h)
  clear HBa2_3
  go_cut [8] (fun sl wx => ∃ (nb : Nat) (yra1 : Option Addr) (yrn1 : Nat) (yrc1 : Nat) (yra2 : Option Addr) (yrn2 : Nat) (yrc2 : Nat), sl = .pointer (some ⟨nb, 0, none⟩) ∧ More w3 wx ∧ w3.heap.size ≤ nb ∧ Box3 wx nb (.bool r.1.1) (.slice yra1 yrn1 yrc1) (.slice yra2 yrn2 yrc2) ∧ Hid (∃ bs, tRat.own bs wx [.bool r.1.1, .slice yra1 yrn1 yrc1, .slice yra2 yrn2 yrc2] r ∧ bs.Nodup ∧ (∀ b ∈ bs, w3.heap.size ≤ b) ∧ nb ∉ bs))
  case first =>
    go_region_held3 (fun w' => More w3 w') (first | exact More.refl _ | exact mC2) (first | (go_at_call 33; (with_reducible refine (laws_toPoint _ a _ (Ty.at_more HV0.out mC) Hs0.out).mono ?_); rintro e w4 ⟨c0, rfl, b4, Fc0⟩; obtain ⟨c0za1, c0zn1, c0zc1, c0za2, c0zn2, c0zc2, c0za4, c0zn4, c0zc4, c0za5, c0zn5, c0zc5, rfl⟩ := sh_Point (Ty.fresh_at Fc0); (have z4 : w3.heap.size ≤ w4.heap.size := by have := b4.size; (try simp at this); omega); (try (have N0 : Box3 w4 (w3.heap.size) (.bool false) (.slice none 0 0) (.slice none 0 0) := Box3.newD (by simp) b4)); (try (have n0c0 := N0.c0; have n0c1 := N0.c1; have n0fr := N0.fr; have n0c2 := N0.c2))) | (go_at_call 33; (with_reducible refine (laws_toPoint _ b _ (Ty.at_more HV1.out mC) Hs1.out).mono ?_); rintro e w5 ⟨c1, rfl, b5, Fc1⟩; obtain ⟨c1za1, c1zn1, c1zc1, c1za2, c1zn2, c1zc2, c1za4, c1zn4, c1zc4, c1za5, c1zn5, c1zc5, rfl⟩ := sh_Point (Ty.fresh_at Fc1); (have z5 : w3.heap.size ≤ w5.heap.size := by have := b5.size; (try simp at this); omega); (try (have N0 : Box3 w5 (w3.heap.size) (.bool false) (.slice none 0 0) (.slice none 0 0) := Box3.keep N0 b5)); (try (have n0c0 := N0.c0; have n0c1 := N0.c1; have n0fr := N0.fr; have n0c2 := N0.c2)); (try (have N1 : Box3 w5 (w4.heap.size) (.bool false) (.slice none 0 0) (.slice none 0 0) := Box3.new (by simp) b5)); (try (have n1c0 := N1.c0; have n1c1 := N1.c1; have n1fr := N1.fr; have n1c2 := N1.c2))) | (go_at_call 33; (with_reducible refine (laws_toPoint _ c _ (Ty.at_more HV2.out mC) Hs2.out).mono ?_); rintro e w6 ⟨c2, rfl, b6, Fc2⟩; obtain ⟨c2za1, c2zn1, c2zc1, c2za2, c2zn2, c2zc2, c2za4, c2zn4, c2zc4, c2za5, c2zn5, c2zc5, rfl⟩ := sh_Point (Ty.fresh_at Fc2); (have z6 : w3.heap.size ≤ w6.heap.size := by have := b6.size; (try simp at this); omega); (try (have N0 : Box3 w6 (w3.heap.size) (.bool false) (.slice none 0 0) (.slice none 0 0) := Box3.keep N0 b6)); (try (have n0c0 := N0.c0; have n0c1 := N0.c1; have n0fr := N0.fr; have n0c2 := N0.c2)); (try (have N1 : Box3 w6 (w4.heap.size) (.bool false) (.slice none 0 0) (.slice none 0 0) := Box3.keep N1 b6)); (try (have n1c0 := N1.c0; have n1c1 := N1.c1; have n1fr := N1.fr; have n1c2 := N1.c2)); (try (have N2 : Box3 w6 (w5.heap.size) (.bool false) (.slice none 0 0) (.slice none 0 0) := Box3.new (by simp) b6)); (try (have n2c0 := N2.c0; have n2c1 := N2.c1; have n2fr := N2.fr; have n2c2 := N2.c2))) | (go_at_call 32; (with_reducible refine (spec_SquareToSegmentL _ _ _ a b c _ (Ty.at_more (Ty.fresh_at Fc0) (Turns.more (by ((repeat (first | (with_reducible apply Turns.drew) | (with_reducible apply Turns.drewN) | (with_reducible apply Turns.alloc))); (with_reducible refine Turns.via b6 ?_); (repeat (first | (with_reducible apply Turns.drew) | (with_reducible apply Turns.drewN) | (with_reducible apply Turns.alloc))); (with_reducible refine Turns.via b5 ?_); (repeat (first | (with_reducible apply Turns.drew) | (with_reducible apply Turns.drewN) | (with_reducible apply Turns.alloc))); exact Turns.refl _ _)))) Hs0.out (Ty.at_more (Ty.fresh_at Fc1) (Turns.more (by ((repeat (first | (with_reducible apply Turns.drew) | (with_reducible apply Turns.drewN) | (with_reducible apply Turns.alloc))); (with_reducible refine Turns.via b6 ?_); (repeat (first | (with_reducible apply Turns.drew) | (with_reducible apply Turns.drewN) | (with_reducible apply Turns.alloc))); exact Turns.refl _ _)))) Hs1.out (Ty.at_more (Ty.fresh_at Fc2) (Turns.more (by ((repeat (first | (with_reducible apply Turns.drew) | (with_reducible apply Turns.drewN) | (with_reducible apply Turns.alloc))); exact Turns.refl _ _)))) Hs2.out).mono ?_); rintro e w7 ⟨q9, rfl, b7, F9⟩; rw [← ER.out] at F9; obtain ⟨yra1, yrn1, yrc1, yra2, yrn2, yrc2, rfl⟩ := sh_Rat (Ty.fresh_at F9); have F9h := Lib.hid F9; clear F9; (have z7 : w3.heap.size ≤ w7.heap.size := by have := b7.size; (try simp at this); omega); (try (have N0 : Box3 w7 (w3.heap.size) (.bool false) (.slice none 0 0) (.slice none 0 0) := Box3.keep N0 b7)); (try (have n0c0 := N0.c0; have n0c1 := N0.c1; have n0fr := N0.fr; have n0c2 := N0.c2)); (try (have N1 : Box3 w7 (w4.heap.size) (.bool false) (.slice none 0 0) (.slice none 0 0) := Box3.keep N1 b7)); (try (have n1c0 := N1.c0; have n1c1 := N1.c1; have n1fr := N1.fr; have n1c2 := N1.c2)); (try (have N2 : Box3 w7 (w5.heap.size) (.bool false) (.slice none 0 0) (.slice none 0 0) := Box3.keep N2 b7)); (try (have n2c0 := N2.c0; have n2c1 := N2.c1; have n2fr := N2.fr; have n2c2 := N2.c2)); (try (have N3 : Box3 w7 (w6.heap.size) (.bool false) (.slice none 0 0) (.slice none 0 0) := Box3.new (by simp) b7)); (try (have n3c0 := N3.c0; have n3c1 := N3.c1; have n3fr := N3.fr; have n3c2 := N3.c2))))
    all_goals
      go_wp2_with fail
      go_meet
      first | exact ⟨w7.heap.size, _, _, _, _, _, _, rfl, mC, More.size (show More w3 w7 from mC), Box3.new rfl (More.refl _), Lib.hid (fresh_after F9h.out (by have s4 := b4.size; (try simp at s4); have s5 := b5.size; (try simp at s5); have s6 := b6.size; (try simp at s6); have s7 := b7.size; (try simp at s7); (try simp) <;> omega) _)⟩ | exact ⟨w3.heap.size, _, _, _, _, _, _, rfl, Box3.more (show More w3 w7 from mC) (by have s4 := b4.size; (try simp at s4); have s5 := b5.size; (try simp at s5); have s6 := b6.size; (try simp at s6); have s7 := b7.size; (try simp at s7); omega), (by have s4 := b4.size; (try simp at s4); have s5 := b5.size; (try simp at s5); have s6 := b6.size; (try simp at s6); have s7 := b7.size; (try simp at s7); omega), Box3.set N0, Lib.hid (fresh_before F9h.out (by have s4 := b4.size; (try simp at s4); have s5 := b5.size; (try simp at s5); have s6 := b6.size; (try simp at s6); have s7 := b7.size; (try simp at s7); (try simp) <;> omega) (by have s4 := b4.size; (try simp at s4); have s5 := b5.size; (try simp at s5); have s6 := b6.size; (try simp at s6); have s7 := b7.size; (try simp at s7); (try simp) <;> omega) ((((Turns.refl _ _).setCell (.inl (by simp)) _).setCell (.inl (by simp)) _).setCell (.inl (by simp)) _))⟩ | exact ⟨w4.heap.size, _, _, _, _, _, _, rfl, Box3.more (show More w3 w7 from mC) (by have s4 := b4.size; (try simp at s4); have s5 := b5.size; (try simp at s5); have s6 := b6.size; (try simp at s6); have s7 := b7.size; (try simp at s7); omega), (by have s4 := b4.size; (try simp at s4); have s5 := b5.size; (try simp at s5); have s6 := b6.size; (try simp at s6); have s7 := b7.size; (try simp at s7); omega), Box3.set N1, Lib.hid (fresh_before F9h.out (by have s4 := b4.size; (try simp at s4); have s5 := b5.size; (try simp at s5); have s6 := b6.size; (try simp at s6); have s7 := b7.size; (try simp at s7); (try simp) <;> omega) (by have s4 := b4.size; (try simp at s4); have s5 := b5.size; (try simp at s5); have s6 := b6.size; (try simp at s6); have s7 := b7.size; (try simp at s7); (try simp) <;> omega) ((((Turns.refl _ _).setCell (.inl (by simp)) _).setCell (.inl (by simp)) _).setCell (.inl (by simp)) _))⟩ | exact ⟨w5.heap.size, _, _, _, _, _, _, rfl, Box3.more (show More w3 w7 from mC) (by have s4 := b4.size; (try simp at s4); have s5 := b5.size; (try simp at s5); have s6 := b6.size; (try simp at s6); have s7 := b7.size; (try simp at s7); omega), (by have s4 := b4.size; (try simp at s4); have s5 := b5.size; (try simp at s5); have s6 := b6.size; (try simp at s6); have s7 := b7.size; (try simp at s7); omega), Box3.set N2, Lib.hid (fresh_before F9h.out (by have s4 := b4.size; (try simp at s4); have s5 := b5.size; (try simp at s5); have s6 := b6.size; (try simp at s6); have s7 := b7.size; (try simp at s7); (try simp) <;> omega) (by have s4 := b4.size; (try simp at s4); have s5 := b5.size; (try simp at s5); have s6 := b6.size; (try simp at s6); have s7 := b7.size; (try simp at s7); (try simp) <;> omega) ((((Turns.refl _ _).setCell (.inl (by simp)) _).setCell (.inl (by simp)) _).setCell (.inl (by simp)) _))⟩ | exact ⟨w6.heap.size, _, _, _, _, _, _, rfl, Box3.more (show More w3 w7 from mC) (by have s4 := b4.size; (try simp at s4); have s5 := b5.size; (try simp at s5); have s6 := b6.size; (try simp at s6); have s7 := b7.size; (try simp at s7); omega), (by have s4 := b4.size; (try simp at s4); have s5 := b5.size; (try simp at s5); have s6 := b6.size; (try simp at s6); have s7 := b7.size; (try simp at s7); omega), Box3.set N3, Lib.hid (fresh_before F9h.out (by have s4 := b4.size; (try simp at s4); have s5 := b5.size; (try simp at s5); have s6 := b6.size; (try simp at s6); have s7 := b7.size; (try simp at s7); (try simp) <;> omega) (by have s4 := b4.size; (try simp at s4); have s5 := b5.size; (try simp at s5); have s6 := b6.size; (try simp at s6); have s7 := b7.size; (try simp at s7); (try simp) <;> omega) ((((Turns.refl _ _).setCell (.inl (by simp)) _).setCell (.inl (by simp)) _).setCell (.inl (by simp)) _))⟩
  case rest =>
  rename World => w8
  obtain ⟨nby, yra1, yrn1, yrc1, yra2, yrn2, yrc2, rfl, b8, hny, hBy, hFy⟩ := hcut
  have Fy : tRat.fresh w3.heap.size w8 [.bool r.1.1, .slice yra1 yrn1 yrc1, .slice yra2 yrn2 yrc2] r := by obtain ⟨q1, q2, q3, q4, _⟩ := hFy.out; exact ⟨q1, q2, q3, q4⟩
  clear RHBa0
  clear RHBa1
  clear RHBa2
  have HBy : ∀ w', More w8 w' → w'.cell? ⟨nby, 0, none⟩ = some (.bool r.1.1) ∧ w'.cell? ⟨nby, 1, none⟩ = some (.slice yra1 yrn1 yrc1) ∧ w'.cell? ⟨nby, 2, none⟩ = some (.slice yra2 yrn2 yrc2) := fun w' h => ⟨(hBy.keep h).c0, (hBy.keep h).c1, (hBy.keep h).c2⟩
  have HByz := hBy.lt
  have HBa0_8 := HBa0 w8 mC
  have HBa0s8 : W.heap.size < w8.heap.size := HBa0S.out _ mC
  try clear HBa0_7
  try clear HBa0s7
  have HBa1_8 := HBa1 w8 mC
  have HBa1s8 : W.heap.size + 1 < w8.heap.size := HBa1S.out _ mC
  try clear HBa1_7
  try clear HBa1s7
  have HBa2_8 := HBa2 w8 mC
  have HBa2s8 : W.heap.size + 1 + 1 < w8.heap.size := HBa2S.out _ mC
  try clear HBa2_7
  try clear HBa2s7
  have HBy_8 := HBy w8 (More.refl _)
  have HBys8 := HByz
  go_wp2_with fail
  refine (laws_toPoint _ a _ (Ty.at_more HV0.out mC) Hs0.out).mono ?_
  rintro e w9 ⟨x0, rfl, b9, bx0, X0, nx0, lx0⟩
  have HBa0ltx0 : ∀ k ∈ bx0, W.heap.size < k := fun k hk => Nat.lt_of_lt_of_le (HBa0S.out _ mC) (lx0 k hk)
  have HBa1ltx0 : ∀ k ∈ bx0, W.heap.size + 1 < k := fun k hk => Nat.lt_of_lt_of_le (HBa1S.out _ mC) (lx0 k hk)
  have HBa2ltx0 : ∀ k ∈ bx0, W.heap.size + 1 + 1 < k := fun k hk => Nat.lt_of_lt_of_le (HBa2S.out _ mC) (lx0 k hk)
  have HByltx0 : ∀ k ∈ bx0, nby < k := fun k hk => Nat.lt_of_lt_of_le HByz (Nat.le_trans (More.size (show More (w8) _ from mC)) (lx0 k hk))
  obtain ⟨x0za1, x0zn1, x0zc1, x0za2, x0zn2, x0zc2, x0za4, x0zn4, x0zc4, x0za5, x0zn5, x0zc5, rfl⟩ := sh_Point (Ty.rd_at (tPoint.own_rd X0))
  have HBa0_9 := HBa0 w9 mC
  have HBa0s9 : W.heap.size < w9.heap.size := HBa0S.out _ mC
  try clear HBa0_8
  try clear HBa0s8
  have HBa1_9 := HBa1 w9 mC
  have HBa1s9 : W.heap.size + 1 < w9.heap.size := HBa1S.out _ mC
  try clear HBa1_8
  try clear HBa1s8
  have HBa2_9 := HBa2 w9 mC
  have HBa2s9 : W.heap.size + 1 + 1 < w9.heap.size := HBa2S.out _ mC
  try clear HBa2_8
  try clear HBa2s8
  have HBy_9 := HBy w9 mC
  have HBys9 : nby < w9.heap.size := by have := More.size (show More w8 w9 from mC); have := HByz; omega
  try clear HBy_8
  try clear HBys8
  have HBx0 := fun (w' : World) (h : More (w9.alloc (.cells #[.bool a.1.1.1, .slice x0za1 x0zn1 x0zc1, .slice x0za2 x0zn2 x0zc2, .bool a.2.1.1, .slice x0za4 x0zn4 x0zc4, .slice x0za5 x0zn5 x0zc5] 47)) w') => nw6 (N := w9.heap.size) (by simp) h
  have HBx0S := Lib.hid (fun (w' : World) (h : More (w9.alloc (.cells #[.bool a.1.1.1, .slice x0za1 x0zn1 x0zc1, .slice x0za2 x0zn2 x0zc2, .bool a.2.1.1, .slice x0za4 x0zn4 x0zc4, .slice x0za5 x0zn5 x0zc5] 47)) w') => (by have := More.size h; simp at this; omega : w9.heap.size < w'.heap.size))
  have HBx0gex0 : w9.heap.size ≤ w9.heap.size := by have := More.size (show More w9 w9 from mC); omega
  go_wp2_with fail
  refine (laws_toPoint _ b _ (Ty.at_more HV1.out mC) Hs1.out).mono ?_
  rintro e w10 ⟨x1, rfl, b10, bx1, X1, nx1, lx1⟩
  have HBa0ltx1 : ∀ k ∈ bx1, W.heap.size < k := fun k hk => Nat.lt_of_lt_of_le (HBa0S.out _ mC) (lx1 k hk)
  have HBa1ltx1 : ∀ k ∈ bx1, W.heap.size + 1 < k := fun k hk => Nat.lt_of_lt_of_le (HBa1S.out _ mC) (lx1 k hk)
  have HBa2ltx1 : ∀ k ∈ bx1, W.heap.size + 1 + 1 < k := fun k hk => Nat.lt_of_lt_of_le (HBa2S.out _ mC) (lx1 k hk)
  have HByltx1 : ∀ k ∈ bx1, nby < k := fun k hk => Nat.lt_of_lt_of_le HByz (Nat.le_trans (More.size (show More (w8) _ from mC)) (lx1 k hk))
  have HBx0ltx1 : ∀ k ∈ bx1, w9.heap.size < k := fun k hk => Nat.lt_of_lt_of_le (HBx0S.out _ mC) (lx1 k hk)
  have lx1_x0 : ∀ k ∈ bx1, w9.heap.size ≤ k := fun k hk => Nat.le_trans (More.size (show More w9 _ from mC)) (lx1 k hk)
  obtain ⟨x1za1, x1zn1, x1zc1, x1za2, x1zn2, x1zc2, x1za4, x1zn4, x1zc4, x1za5, x1zn5, x1zc5, rfl⟩ := sh_Point (Ty.rd_at (tPoint.own_rd X1))
  have HBa0_10 := HBa0 w10 mC
  have HBa0s10 : W.heap.size < w10.heap.size := HBa0S.out _ mC
  try clear HBa0_9
  try clear HBa0s9
  have HBa1_10 := HBa1 w10 mC
  have HBa1s10 : W.heap.size + 1 < w10.heap.size := HBa1S.out _ mC
  try clear HBa1_9
  try clear HBa1s9
  have HBa2_10 := HBa2 w10 mC
  have HBa2s10 : W.heap.size + 1 + 1 < w10.heap.size := HBa2S.out _ mC
  try clear HBa2_9
  try clear HBa2s9
  have HBy_10 := HBy w10 mC
  have HBys10 : nby < w10.heap.size := by have := More.size (show More w8 w10 from mC); have := HByz; omega
  try clear HBy_9
  try clear HBys9
  have HBx0_10 := HBx0 w10 mC
  have HBx0s10 : w9.heap.size < w10.heap.size := HBx0S.out _ mC
  try clear HBx0_9
  try clear HBx0s9
  have HBx1 := fun (w' : World) (h : More (w10.alloc (.cells #[.bool b.1.1.1, .slice x1za1 x1zn1 x1zc1, .slice x1za2 x1zn2 x1zc2, .bool b.2.1.1, .slice x1za4 x1zn4 x1zc4, .slice x1za5 x1zn5 x1zc5] 47)) w') => nw6 (N := w10.heap.size) (by simp) h
  have HBx1S := Lib.hid (fun (w' : World) (h : More (w10.alloc (.cells #[.bool b.1.1.1, .slice x1za1 x1zn1 x1zc1, .slice x1za2 x1zn2 x1zc2, .bool b.2.1.1, .slice x1za4 x1zn4 x1zc4, .slice x1za5 x1zn5 x1zc5] 47)) w') => (by have := More.size h; simp at this; omega : w10.heap.size < w'.heap.size))
  have HBx1gex0 : w9.heap.size ≤ w10.heap.size := by have := More.size (show More w9 w10 from mC); omega
  have HBx1gex1 : w10.heap.size ≤ w10.heap.size := by have := More.size (show More w10 w10 from mC); omega
  go_wp2_with fail
  refine (laws_toPoint _ c _ (Ty.at_more HV2.out mC) Hs2.out).mono ?_
  rintro e w11 ⟨x2, rfl, b11, bx2, X2, nx2, lx2⟩
  have HBa0ltx2 : ∀ k ∈ bx2, W.heap.size < k := fun k hk => Nat.lt_of_lt_of_le (HBa0S.out _ mC) (lx2 k hk)
  have HBa1ltx2 : ∀ k ∈ bx2, W.heap.size + 1 < k := fun k hk => Nat.lt_of_lt_of_le (HBa1S.out _ mC) (lx2 k hk)
  have HBa2ltx2 : ∀ k ∈ bx2, W.heap.size + 1 + 1 < k := fun k hk => Nat.lt_of_lt_of_le (HBa2S.out _ mC) (lx2 k hk)
  have HByltx2 : ∀ k ∈ bx2, nby < k := fun k hk => Nat.lt_of_lt_of_le HByz (Nat.le_trans (More.size (show More (w8) _ from mC)) (lx2 k hk))
  have HBx0ltx2 : ∀ k ∈ bx2, w9.heap.size < k := fun k hk => Nat.lt_of_lt_of_le (HBx0S.out _ mC) (lx2 k hk)
  have HBx1ltx2 : ∀ k ∈ bx2, w10.heap.size < k := fun k hk => Nat.lt_of_lt_of_le (HBx1S.out _ mC) (lx2 k hk)
  have lx2_x0 : ∀ k ∈ bx2, w9.heap.size ≤ k := fun k hk => Nat.le_trans (More.size (show More w9 _ from mC)) (lx2 k hk)
  have lx2_x1 : ∀ k ∈ bx2, w10.heap.size ≤ k := fun k hk => Nat.le_trans (More.size (show More w10 _ from mC)) (lx2 k hk)
  obtain ⟨x2za1, x2zn1, x2zc1, x2za2, x2zn2, x2zc2, x2za4, x2zn4, x2zc4, x2za5, x2zn5, x2zc5, rfl⟩ := sh_Point (Ty.rd_at (tPoint.own_rd X2))
  have HBa0_11 := HBa0 w11 mC
  have HBa0s11 : W.heap.size < w11.heap.size := HBa0S.out _ mC
  try clear HBa0_10
  try clear HBa0s10
  have HBa1_11 := HBa1 w11 mC
  have HBa1s11 : W.heap.size + 1 < w11.heap.size := HBa1S.out _ mC
  try clear HBa1_10
  try clear HBa1s10
  have HBa2_11 := HBa2 w11 mC
  have HBa2s11 : W.heap.size + 1 + 1 < w11.heap.size := HBa2S.out _ mC
  try clear HBa2_10
  try clear HBa2s10
  have HBy_11 := HBy w11 mC
  have HBys11 : nby < w11.heap.size := by have := More.size (show More w8 w11 from mC); have := HByz; omega
  try clear HBy_10
  try clear HBys10
  have HBx0_11 := HBx0 w11 mC
  have HBx0s11 : w9.heap.size < w11.heap.size := HBx0S.out _ mC
  try clear HBx0_10
  try clear HBx0s10
  have HBx1_11 := HBx1 w11 mC
  have HBx1s11 : w10.heap.size < w11.heap.size := HBx1S.out _ mC
  try clear HBx1_10
  try clear HBx1s10
  have HBx2 := fun (w' : World) (h : More (w11.alloc (.cells #[.bool c.1.1.1, .slice x2za1 x2zn1 x2zc1, .slice x2za2 x2zn2 x2zc2, .bool c.2.1.1, .slice x2za4 x2zn4 x2zc4, .slice x2za5 x2zn5 x2zc5] 47)) w') => nw6 (N := w11.heap.size) (by simp) h
  have HBx2S := Lib.hid (fun (w' : World) (h : More (w11.alloc (.cells #[.bool c.1.1.1, .slice x2za1 x2zn1 x2zc1, .slice x2za2 x2zn2 x2zc2, .bool c.2.1.1, .slice x2za4 x2zn4 x2zc4, .slice x2za5 x2zn5 x2zc5] 47)) w') => (by have := More.size h; simp at this; omega : w11.heap.size < w'.heap.size))
  have HBx2gex0 : w9.heap.size ≤ w11.heap.size := by have := More.size (show More w9 w11 from mC); omega
  have HBx2gex1 : w10.heap.size ≤ w11.heap.size := by have := More.size (show More w10 w11 from mC); omega
  have HBx2gex2 : w11.heap.size ≤ w11.heap.size := by have := More.size (show More w11 w11 from mC); omega
  go_wp2_with fail
  refine (impl_SquareToSegmentL _ _ _ a b c _ (Ty.at_more (Ty.rd_at (tPoint.own_rd X0)) mC) Hs0.out (Ty.at_more (Ty.rd_at (tPoint.own_rd X1)) mC) Hs1.out (Ty.at_more (Ty.rd_at (tPoint.own_rd X2)) mC) Hs2.out).mono ?_
  rintro e w12 ⟨g, rfl, b12, bg, G, ng, lg⟩
  rw [← ER.out] at G
  obtain ⟨gra1, grn1, grc1, gra2, grn2, grc2, rfl⟩ := sh_Rat (Ty.rd_at (tRat.own_rd G))
  have HBa0_12 := HBa0 w12 mC
  have HBa0s12 : W.heap.size < w12.heap.size := HBa0S.out _ mC
  try clear HBa0_11
  try clear HBa0s11
  have HBa1_12 := HBa1 w12 mC
  have HBa1s12 : W.heap.size + 1 < w12.heap.size := HBa1S.out _ mC
  try clear HBa1_11
  try clear HBa1s11
  have HBa2_12 := HBa2 w12 mC
  have HBa2s12 : W.heap.size + 1 + 1 < w12.heap.size := HBa2S.out _ mC
  try clear HBa2_11
  try clear HBa2s11
  have HBy_12 := HBy w12 mC
  have HBys12 : nby < w12.heap.size := by have := More.size (show More w8 w12 from mC); have := HByz; omega
  try clear HBy_11
  try clear HBys11
  have HBx0_12 := HBx0 w12 mC
  have HBx0s12 : w9.heap.size < w12.heap.size := HBx0S.out _ mC
  try clear HBx0_11
  try clear HBx0s11
  have HBx1_12 := HBx1 w12 mC
  have HBx1s12 : w10.heap.size < w12.heap.size := HBx1S.out _ mC
  try clear HBx1_11
  try clear HBx1s11
  have HBx2_12 := HBx2 w12 mC
  have HBx2s12 : w11.heap.size < w12.heap.size := HBx2S.out _ mC
  try clear HBx2_11
  try clear HBx2s11
  have HBa0ltg : ∀ k ∈ bg, W.heap.size < k := fun k hk => Nat.lt_of_lt_of_le (HBa0S.out _ mC) (lg k hk)
  have HBa1ltg : ∀ k ∈ bg, W.heap.size + 1 < k := fun k hk => Nat.lt_of_lt_of_le (HBa1S.out _ mC) (lg k hk)
  have HBa2ltg : ∀ k ∈ bg, W.heap.size + 1 + 1 < k := fun k hk => Nat.lt_of_lt_of_le (HBa2S.out _ mC) (lg k hk)
  have HByltg : ∀ k ∈ bg, nby < k := fun k hk => Nat.lt_of_lt_of_le HByz (Nat.le_trans (More.size (show More (w8) _ from mC)) (lg k hk))
  have HBx0ltg : ∀ k ∈ bg, w9.heap.size < k := fun k hk => Nat.lt_of_lt_of_le (HBx0S.out _ mC) (lg k hk)
  have HBx1ltg : ∀ k ∈ bg, w10.heap.size < k := fun k hk => Nat.lt_of_lt_of_le (HBx1S.out _ mC) (lg k hk)
  have HBx2ltg : ∀ k ∈ bg, w11.heap.size < k := fun k hk => Nat.lt_of_lt_of_le (HBx2S.out _ mC) (lg k hk)
  have lg_x0 : ∀ k ∈ bg, w9.heap.size ≤ k := fun k hk => Nat.le_trans (More.size (show More w9 _ from mC)) (lg k hk)
  have lg_x1 : ∀ k ∈ bg, w10.heap.size ≤ k := fun k hk => Nat.le_trans (More.size (show More w10 _ from mC)) (lg k hk)
  have lg_x2 : ∀ k ∈ bg, w11.heap.size ≤ k := fun k hk => Nat.le_trans (More.size (show More w11 _ from mC)) (lg k hk)
  have HBg := fun (w' : World) (h : More (w12.alloc (.cells #[.bool r.1.1, .slice gra1 grn1 grc1, .slice gra2 grn2 grc2] 30)) w') => nw3 (N := w12.heap.size) (by simp) h
  have HBgS := Lib.hid (fun (w' : World) (h : More (w12.alloc (.cells #[.bool r.1.1, .slice gra1 grn1 grc1, .slice gra2 grn2 grc2] 30)) w') => (by have := More.size h; simp at this; omega : w12.heap.size < w'.heap.size))
  have HBggex0 : w9.heap.size ≤ w12.heap.size := by have := More.size (show More w9 w12 from mC); omega
  have HBggex1 : w10.heap.size ≤ w12.heap.size := by have := More.size (show More w10 w12 from mC); omega
  have HBggex2 : w11.heap.size ≤ w12.heap.size := by have := More.size (show More w11 w12 from mC); omega
  have HBggeg : w12.heap.size ≤ w12.heap.size := by have := More.size (show More w12 w12 from mC); omega
  go_wp2_with fail
  refine (laws_eqRat _ _ r _ (Ty.at_more (Ty.rd_at (tRat.own_rd G)) mC) (Ty.at_more (Ty.fresh_at Fy) mC) HrL.out).mono ?_
  rintro e w13 ⟨rfl, b13⟩
  have HBa0_13 := HBa0 w13 mC
  have HBa0s13 : W.heap.size < w13.heap.size := HBa0S.out _ mC
  try clear HBa0_12
  try clear HBa0s12
  have HBa1_13 := HBa1 w13 mC
  have HBa1s13 : W.heap.size + 1 < w13.heap.size := HBa1S.out _ mC
  try clear HBa1_12
  try clear HBa1s12
  have HBa2_13 := HBa2 w13 mC
  have HBa2s13 : W.heap.size + 1 + 1 < w13.heap.size := HBa2S.out _ mC
  try clear HBa2_12
  try clear HBa2s12
  have HBy_13 := HBy w13 mC
  have HBys13 : nby < w13.heap.size := by have := More.size (show More w8 w13 from mC); have := HByz; omega
  try clear HBy_12
  try clear HBys12
  have HBx0_13 := HBx0 w13 mC
  have HBx0s13 : w9.heap.size < w13.heap.size := HBx0S.out _ mC
  try clear HBx0_12
  try clear HBx0s12
  have HBx1_13 := HBx1 w13 mC
  have HBx1s13 : w10.heap.size < w13.heap.size := HBx1S.out _ mC
  try clear HBx1_12
  try clear HBx1s12
  have HBx2_13 := HBx2 w13 mC
  have HBx2s13 : w11.heap.size < w13.heap.size := HBx2S.out _ mC
  try clear HBx2_12
  try clear HBx2s12
  have HBg_13 := HBg w13 mC
  have HBgs13 : w12.heap.size < w13.heap.size := HBgS.out _ mC
  try clear HBg_12
  try clear HBgs12
  go_wp2_with fail
  have RHBa0 := fun (w' : World) (h : More w13 w') => HBa0 w' (More.trans (show More _ w13 from mC) h)
  clear HBa0_13
  have RHBa1 := fun (w' : World) (h : More w13 w') => HBa1 w' (More.trans (show More _ w13 from mC) h)
  clear HBa1_13
  have RHBa2 := fun (w' : World) (h : More w13 w') => HBa2 w' (More.trans (show More _ w13 from mC) h)
  clear HBa2_13
  have RHBy := fun (w' : World) (h : More w13 w') => HBy w' (More.trans (show More _ w13 from mC) h)
  clear HBy_13
  have RHBx0 := fun (w' : World) (h : More w13 w') => HBx0 w' (More.trans (show More _ w13 from mC) h)
  clear HBx0_13
  have RHBx1 := fun (w' : World) (h : More w13 w') => HBx1 w' (More.trans (show More _ w13 from mC) h)
  clear HBx1_13
  have RHBx2 := fun (w' : World) (h : More w13 w') => HBx2 w' (More.trans (show More _ w13 from mC) h)
  clear HBx2_13
  have RHBg := fun (w' : World) (h : More w13 w') => HBg w' (More.trans (show More _ w13 from mC) h)
  clear HBg_13
  go_region_held3 (fun w' => More w13 w') (first | exact More.refl _ | exact mC) (first | (go_at_call 33; (with_reducible refine (laws_toPoint _ a _ (Ty.at_more HV0.out mC) Hs0.out).mono ?_); rintro e w14 ⟨t0, rfl, b14, Ft0⟩; obtain ⟨t0za1, t0zn1, t0zc1, t0za2, t0zn2, t0zc2, t0za4, t0zn4, t0zc4, t0za5, t0zn5, t0zc5, rfl⟩ := sh_Point (Ty.fresh_at Ft0)) | (go_at_call 20; (with_reducible refine (laws_eqPoint _ _ a _ (Ty.at_more (Ty.rd_at (tPoint.own_rd X0)) mC) (Ty.at_more (Ty.fresh_at Ft0) (Turns.more (by ((repeat (first | (with_reducible apply Turns.drew) | (with_reducible apply Turns.drewN) | (with_reducible apply Turns.alloc))); exact Turns.refl _ _)))) Hs0.out).mono ?_); rintro e w15 ⟨rfl, b15⟩))
  clear RHBa0
  clear RHBa1
  clear RHBa2
  clear RHBy
  clear RHBx0
  clear RHBx1
  clear RHBx2
  clear RHBg
  have HBa0_15 := HBa0 w15 mC
  have HBa0s15 : W.heap.size < w15.heap.size := HBa0S.out _ mC
  try clear HBa0_14
  try clear HBa0s14
  have HBa1_15 := HBa1 w15 mC
  have HBa1s15 : W.heap.size + 1 < w15.heap.size := HBa1S.out _ mC
  try clear HBa1_14
  try clear HBa1s14
  have HBa2_15 := HBa2 w15 mC
  have HBa2s15 : W.heap.size + 1 + 1 < w15.heap.size := HBa2S.out _ mC
  try clear HBa2_14
  try clear HBa2s14
  have HBy_15 := HBy w15 mC
  have HBys15 : nby < w15.heap.size := by have := More.size (show More w8 w15 from mC); have := HByz; omega
  try clear HBy_14
  try clear HBys14
  have HBx0_15 := HBx0 w15 mC
  have HBx0s15 : w9.heap.size < w15.heap.size := HBx0S.out _ mC
  try clear HBx0_14
  try clear HBx0s14
  have HBx1_15 := HBx1 w15 mC
  have HBx1s15 : w10.heap.size < w15.heap.size := HBx1S.out _ mC
  try clear HBx1_14
  try clear HBx1s14
  have HBx2_15 := HBx2 w15 mC
  have HBx2s15 : w11.heap.size < w15.heap.size := HBx2S.out _ mC
  try clear HBx2_14
  try clear HBx2s14
  have HBg_15 := HBg w15 mC
  have HBgs15 : w12.heap.size < w15.heap.size := HBgS.out _ mC
  try clear HBg_14
  try clear HBgs14
  go_wp2_with fail
  have RHBa0 := fun (w' : World) (h : More w15 w') => HBa0 w' (More.trans (show More _ w15 from mC) h)
  clear HBa0_15
  have RHBa1 := fun (w' : World) (h : More w15 w') => HBa1 w' (More.trans (show More _ w15 from mC) h)
  clear HBa1_15
  have RHBa2 := fun (w' : World) (h : More w15 w') => HBa2 w' (More.trans (show More _ w15 from mC) h)
  clear HBa2_15
  have RHBy := fun (w' : World) (h : More w15 w') => HBy w' (More.trans (show More _ w15 from mC) h)
  clear HBy_15
  have RHBx0 := fun (w' : World) (h : More w15 w') => HBx0 w' (More.trans (show More _ w15 from mC) h)
  clear HBx0_15
  have RHBx1 := fun (w' : World) (h : More w15 w') => HBx1 w' (More.trans (show More _ w15 from mC) h)
  clear HBx1_15
  have RHBx2 := fun (w' : World) (h : More w15 w') => HBx2 w' (More.trans (show More _ w15 from mC) h)
  clear HBx2_15
  have RHBg := fun (w' : World) (h : More w15 w') => HBg w' (More.trans (show More _ w15 from mC) h)
  clear HBg_15
  go_region_held3 (fun w' => More w15 w') (first | exact More.refl _ | exact mC) (first | (go_at_call 33; (with_reducible refine (laws_toPoint _ b _ (Ty.at_more HV1.out mC) Hs1.out).mono ?_); rintro e w16 ⟨t1, rfl, b16, Ft1⟩; obtain ⟨t1za1, t1zn1, t1zc1, t1za2, t1zn2, t1zc2, t1za4, t1zn4, t1zc4, t1za5, t1zn5, t1zc5, rfl⟩ := sh_Point (Ty.fresh_at Ft1)) | (go_at_call 20; (with_reducible refine (laws_eqPoint _ _ b _ (Ty.at_more (Ty.rd_at (tPoint.own_rd X1)) mC) (Ty.at_more (Ty.fresh_at Ft1) (Turns.more (by ((repeat (first | (with_reducible apply Turns.drew) | (with_reducible apply Turns.drewN) | (with_reducible apply Turns.alloc))); exact Turns.refl _ _)))) Hs1.out).mono ?_); rintro e w17 ⟨rfl, b17⟩))
  clear RHBa0
  clear RHBa1
  clear RHBa2
  clear RHBy
  clear RHBx0
  clear RHBx1
  clear RHBx2
  clear RHBg
  have HBa0_17 := HBa0 w17 mC
  have HBa0s17 : W.heap.size < w17.heap.size := HBa0S.out _ mC
  try clear HBa0_16
  try clear HBa0s16
  have HBa1_17 := HBa1 w17 mC
  have HBa1s17 : W.heap.size + 1 < w17.heap.size := HBa1S.out _ mC
  try clear HBa1_16
  try clear HBa1s16
  have HBa2_17 := HBa2 w17 mC
  have HBa2s17 : W.heap.size + 1 + 1 < w17.heap.size := HBa2S.out _ mC
  try clear HBa2_16
  try clear HBa2s16
  have HBy_17 := HBy w17 mC
  have HBys17 : nby < w17.heap.size := by have := More.size (show More w8 w17 from mC); have := HByz; omega
  try clear HBy_16
  try clear HBys16
  have HBx0_17 := HBx0 w17 mC
  have HBx0s17 : w9.heap.size < w17.heap.size := HBx0S.out _ mC
  try clear HBx0_16
  try clear HBx0s16
  have HBx1_17 := HBx1 w17 mC
  have HBx1s17 : w10.heap.size < w17.heap.size := HBx1S.out _ mC
  try clear HBx1_16
  try clear HBx1s16
  have HBx2_17 := HBx2 w17 mC
  have HBx2s17 : w11.heap.size < w17.heap.size := HBx2S.out _ mC
  try clear HBx2_16
  try clear HBx2s16
  have HBg_17 := HBg w17 mC
  have HBgs17 : w12.heap.size < w17.heap.size := HBgS.out _ mC
  try clear HBg_16
  try clear HBgs16
  go_wp2_with fail
  have RHBa0 := fun (w' : World) (h : More w17 w') => HBa0 w' (More.trans (show More _ w17 from mC) h)
  clear HBa0_17
  have RHBa1 := fun (w' : World) (h : More w17 w') => HBa1 w' (More.trans (show More _ w17 from mC) h)
  clear HBa1_17
  have RHBa2 := fun (w' : World) (h : More w17 w') => HBa2 w' (More.trans (show More _ w17 from mC) h)
  clear HBa2_17
  have RHBy := fun (w' : World) (h : More w17 w') => HBy w' (More.trans (show More _ w17 from mC) h)
  clear HBy_17
  have RHBx0 := fun (w' : World) (h : More w17 w') => HBx0 w' (More.trans (show More _ w17 from mC) h)
  clear HBx0_17
  have RHBx1 := fun (w' : World) (h : More w17 w') => HBx1 w' (More.trans (show More _ w17 from mC) h)
  clear HBx1_17
  have RHBx2 := fun (w' : World) (h : More w17 w') => HBx2 w' (More.trans (show More _ w17 from mC) h)
  clear HBx2_17
  have RHBg := fun (w' : World) (h : More w17 w') => HBg w' (More.trans (show More _ w17 from mC) h)
  clear HBg_17
  go_region_held3 (fun w' => More w17 w') (first | exact More.refl _ | exact mC) (first | (go_at_call 33; (with_reducible refine (laws_toPoint _ c _ (Ty.at_more HV2.out mC) Hs2.out).mono ?_); rintro e w18 ⟨t2, rfl, b18, Ft2⟩; obtain ⟨t2za1, t2zn1, t2zc1, t2za2, t2zn2, t2zc2, t2za4, t2zn4, t2zc4, t2za5, t2zn5, t2zc5, rfl⟩ := sh_Point (Ty.fresh_at Ft2)) | (go_at_call 20; (with_reducible refine (laws_eqPoint _ _ c _ (Ty.at_more (Ty.rd_at (tPoint.own_rd X2)) mC) (Ty.at_more (Ty.fresh_at Ft2) (Turns.more (by ((repeat (first | (with_reducible apply Turns.drew) | (with_reducible apply Turns.drewN) | (with_reducible apply Turns.alloc))); exact Turns.refl _ _)))) Hs2.out).mono ?_); rintro e w19 ⟨rfl, b19⟩))
  clear RHBa0
  clear RHBa1
  clear RHBa2
  clear RHBy
  clear RHBx0
  clear RHBx1
  clear RHBx2
  clear RHBg
  have HBa0_19 := HBa0 w19 mC
  have HBa0s19 : W.heap.size < w19.heap.size := HBa0S.out _ mC
  try clear HBa0_18
  try clear HBa0s18
  have HBa1_19 := HBa1 w19 mC
  have HBa1s19 : W.heap.size + 1 < w19.heap.size := HBa1S.out _ mC
  try clear HBa1_18
  try clear HBa1s18
  have HBa2_19 := HBa2 w19 mC
  have HBa2s19 : W.heap.size + 1 + 1 < w19.heap.size := HBa2S.out _ mC
  try clear HBa2_18
  try clear HBa2s18
  have HBy_19 := HBy w19 mC
  have HBys19 : nby < w19.heap.size := by have := More.size (show More w8 w19 from mC); have := HByz; omega
  try clear HBy_18
  try clear HBys18
  have HBx0_19 := HBx0 w19 mC
  have HBx0s19 : w9.heap.size < w19.heap.size := HBx0S.out _ mC
  try clear HBx0_18
  try clear HBx0s18
  have HBx1_19 := HBx1 w19 mC
  have HBx1s19 : w10.heap.size < w19.heap.size := HBx1S.out _ mC
  try clear HBx1_18
  try clear HBx1s18
  have HBx2_19 := HBx2 w19 mC
  have HBx2s19 : w11.heap.size < w19.heap.size := HBx2S.out _ mC
  try clear HBx2_18
  try clear HBx2s18
  have HBg_19 := HBg w19 mC
  have HBgs19 : w12.heap.size < w19.heap.size := HBgS.out _ mC
  try clear HBg_18
  try clear HBgs18
  go_wp2_with fail
  refine (laws_markPoint_ bx0 _ a _ _ (Ty.own_more X0 mC) nx0 (by omega) (by have h09 := HC0.out; have h19 := HC1.out; have h29 := HC2.out; have := HC0.out; omega) Hs0.out).mono ?_
  rintro e w20 ⟨rfl, T20, M20⟩
  have x1o20 := Ty.own_turns (Ty.own_more X1 mC) T20 (fun k hk hk' => by have h1 := lx1_x0 k hk; have h2 := tPoint.own_lt X0 k hk'; omega)
  have x2o20 := Ty.own_turns (Ty.own_more X2 mC) T20 (fun k hk hk' => by have h1 := lx2_x0 k hk; have h2 := tPoint.own_lt X0 k hk'; omega)
  have go20 := Ty.own_turns (Ty.own_more G mC) T20 (fun k hk hk' => by have h1 := lg_x0 k hk; have h2 := tPoint.own_lt X0 k hk'; omega)
  have HBa0z' : W.heap.size < w20.heap.size := Nat.lt_of_lt_of_le (HBa0S.out _ mC) T20.size
  have HBa0k := tc6 T20 (HBa0S.out _ mC) (fun h => by have h1 := HBa0ltx0 _ h; omega) (HBa0 _ mC)
  have HBa1z' : W.heap.size + 1 < w20.heap.size := Nat.lt_of_lt_of_le (HBa1S.out _ mC) T20.size
  have HBa1k := tc6 T20 (HBa1S.out _ mC) (fun h => by have h1 := HBa1ltx0 _ h; omega) (HBa1 _ mC)
  have HBa2z' : W.heap.size + 1 + 1 < w20.heap.size := Nat.lt_of_lt_of_le (HBa2S.out _ mC) T20.size
  have HBa2k := tc6 T20 (HBa2S.out _ mC) (fun h => by have h1 := HBa2ltx0 _ h; omega) (HBa2 _ mC)
  have HByz' : nby < w20.heap.size := Nat.lt_of_lt_of_le (Nat.lt_of_lt_of_le HByz (More.size (show More (w8) _ from mC))) T20.size
  have HByk := tc3 T20 (Nat.lt_of_lt_of_le HByz (More.size (show More (w8) _ from mC))) (fun h => by have h1 := HByltx0 _ h; omega) (HBy _ mC)
  have HBx0z' : w9.heap.size < w20.heap.size := Nat.lt_of_lt_of_le (HBx0S.out _ mC) T20.size
  have HBx0k := tc6 T20 (HBx0S.out _ mC) (fun h => by have h1 := HBx0gex0; have h2 := tPoint.own_lt X0 _ h; omega) (HBx0 _ mC)
  have HBx1z' : w10.heap.size < w20.heap.size := Nat.lt_of_lt_of_le (HBx1S.out _ mC) T20.size
  have HBx1k := tc6 T20 (HBx1S.out _ mC) (fun h => by have h1 := HBx1gex0; have h2 := tPoint.own_lt X0 _ h; omega) (HBx1 _ mC)
  have HBx2z' : w11.heap.size < w20.heap.size := Nat.lt_of_lt_of_le (HBx2S.out _ mC) T20.size
  have HBx2k := tc6 T20 (HBx2S.out _ mC) (fun h => by have h1 := HBx2gex0; have h2 := tPoint.own_lt X0 _ h; omega) (HBx2 _ mC)
  have HBgz' : w12.heap.size < w20.heap.size := Nat.lt_of_lt_of_le (HBgS.out _ mC) T20.size
  have HBgk := tc3 T20 (HBgS.out _ mC) (fun h => by have h1 := HBggex0; have h2 := tPoint.own_lt X0 _ h; omega) (HBg _ mC)
  have b20 := More.turn (b9.trans mC) T20 lx0
  try clear HBa0_19
  try clear HBa0s19
  clear HBa0
  have HBa0 := fun (w' : World) (h : More w20 w') => kp6 h HBa0z' HBa0k
  try clear HBa0z
  have HBa0z := HBa0z'; clear HBa0z' HBa0k
  have HBa0_20 := HBa0 w20 (More.refl _)
  have HBa0s20 := HBa0z
  try clear HBa1_19
  try clear HBa1s19
  clear HBa1
  have HBa1 := fun (w' : World) (h : More w20 w') => kp6 h HBa1z' HBa1k
  try clear HBa1z
  have HBa1z := HBa1z'; clear HBa1z' HBa1k
  have HBa1_20 := HBa1 w20 (More.refl _)
  have HBa1s20 := HBa1z
  try clear HBa2_19
  try clear HBa2s19
  clear HBa2
  have HBa2 := fun (w' : World) (h : More w20 w') => kp6 h HBa2z' HBa2k
  try clear HBa2z
  have HBa2z := HBa2z'; clear HBa2z' HBa2k
  have HBa2_20 := HBa2 w20 (More.refl _)
  have HBa2s20 := HBa2z
  try clear HBy_19
  try clear HBys19
  clear HBy
  have HBy := fun (w' : World) (h : More w20 w') => kp3 h HByz' HByk
  try clear HByz
  have HByz := HByz'; clear HByz' HByk
  have HBy_20 := HBy w20 (More.refl _)
  have HBys20 := HByz
  try clear HBx0_19
  try clear HBx0s19
  clear HBx0
  have HBx0 := fun (w' : World) (h : More w20 w') => kp6 h HBx0z' HBx0k
  try clear HBx0z
  have HBx0z := HBx0z'; clear HBx0z' HBx0k
  have HBx0_20 := HBx0 w20 (More.refl _)
  have HBx0s20 := HBx0z
  try clear HBx1_19
  try clear HBx1s19
  clear HBx1
  have HBx1 := fun (w' : World) (h : More w20 w') => kp6 h HBx1z' HBx1k
  try clear HBx1z
  have HBx1z := HBx1z'; clear HBx1z' HBx1k
  have HBx1_20 := HBx1 w20 (More.refl _)
  have HBx1s20 := HBx1z
  try clear HBx2_19
  try clear HBx2s19
  clear HBx2
  have HBx2 := fun (w' : World) (h : More w20 w') => kp6 h HBx2z' HBx2k
  try clear HBx2z
  have HBx2z := HBx2z'; clear HBx2z' HBx2k
  have HBx2_20 := HBx2 w20 (More.refl _)
  have HBx2s20 := HBx2z
  try clear HBg_19
  try clear HBgs19
  clear HBg
  have HBg := fun (w' : World) (h : More w20 w') => kp3 h HBgz' HBgk
  try clear HBgz
  have HBgz := HBgz'; clear HBgz' HBgk
  have HBg_20 := HBg w20 (More.refl _)
  have HBgs20 := HBgz
  have k20 : 0 ≤ 1 + ((cPoint a : Nat) : Int) := by omega
  go_wp2_with fail
  refine (laws_markPoint_ bx1 _ b _ _ (Ty.own_more x1o20 mC) nx1 (by omega) (by have h09 := HC0.out; have h19 := HC1.out; have h29 := HC2.out; have := HC1.out; omega) Hs1.out).mono ?_
  rintro e w21 ⟨rfl, T21, M21⟩
  have x2o21 := Ty.own_turns (Ty.own_more x2o20 mC) T21 (fun k hk hk' => by have h1 := lx2_x1 k hk; have h2 := tPoint.own_lt X1 k hk'; omega)
  have go21 := Ty.own_turns (Ty.own_more go20 mC) T21 (fun k hk hk' => by have h1 := lg_x1 k hk; have h2 := tPoint.own_lt X1 k hk'; omega)
  have HBa0z' : W.heap.size < w21.heap.size := Nat.lt_of_lt_of_le (Nat.lt_of_lt_of_le HBa0z (More.size (show More (w20) _ from mC))) T21.size
  have HBa0k := tc6 T21 (Nat.lt_of_lt_of_le HBa0z (More.size (show More (w20) _ from mC))) (fun h => by have h1 := HBa0ltx1 _ h; omega) (HBa0 _ mC)
  have HBa1z' : W.heap.size + 1 < w21.heap.size := Nat.lt_of_lt_of_le (Nat.lt_of_lt_of_le HBa1z (More.size (show More (w20) _ from mC))) T21.size
  have HBa1k := tc6 T21 (Nat.lt_of_lt_of_le HBa1z (More.size (show More (w20) _ from mC))) (fun h => by have h1 := HBa1ltx1 _ h; omega) (HBa1 _ mC)
  have HBa2z' : W.heap.size + 1 + 1 < w21.heap.size := Nat.lt_of_lt_of_le (Nat.lt_of_lt_of_le HBa2z (More.size (show More (w20) _ from mC))) T21.size
  have HBa2k := tc6 T21 (Nat.lt_of_lt_of_le HBa2z (More.size (show More (w20) _ from mC))) (fun h => by have h1 := HBa2ltx1 _ h; omega) (HBa2 _ mC)
  have HByz' : nby < w21.heap.size := Nat.lt_of_lt_of_le (Nat.lt_of_lt_of_le HByz (More.size (show More (w20) _ from mC))) T21.size
  have HByk := tc3 T21 (Nat.lt_of_lt_of_le HByz (More.size (show More (w20) _ from mC))) (fun h => by have h1 := HByltx1 _ h; omega) (HBy _ mC)
  have HBx0z' : w9.heap.size < w21.heap.size := Nat.lt_of_lt_of_le (Nat.lt_of_lt_of_le HBx0z (More.size (show More (w20) _ from mC))) T21.size
  have HBx0k := tc6 T21 (Nat.lt_of_lt_of_le HBx0z (More.size (show More (w20) _ from mC))) (fun h => by have h1 := HBx0ltx1 _ h; omega) (HBx0 _ mC)
  have HBx1z' : w10.heap.size < w21.heap.size := Nat.lt_of_lt_of_le (Nat.lt_of_lt_of_le HBx1z (More.size (show More (w20) _ from mC))) T21.size
  have HBx1k := tc6 T21 (Nat.lt_of_lt_of_le HBx1z (More.size (show More (w20) _ from mC))) (fun h => by have h1 := HBx1gex1; have h2 := tPoint.own_lt X1 _ h; omega) (HBx1 _ mC)
  have HBx2z' : w11.heap.size < w21.heap.size := Nat.lt_of_lt_of_le (Nat.lt_of_lt_of_le HBx2z (More.size (show More (w20) _ from mC))) T21.size
  have HBx2k := tc6 T21 (Nat.lt_of_lt_of_le HBx2z (More.size (show More (w20) _ from mC))) (fun h => by have h1 := HBx2gex1; have h2 := tPoint.own_lt X1 _ h; omega) (HBx2 _ mC)
  have HBgz' : w12.heap.size < w21.heap.size := Nat.lt_of_lt_of_le (Nat.lt_of_lt_of_le HBgz (More.size (show More (w20) _ from mC))) T21.size
  have HBgk := tc3 T21 (Nat.lt_of_lt_of_le HBgz (More.size (show More (w20) _ from mC))) (fun h => by have h1 := HBggex1; have h2 := tPoint.own_lt X1 _ h; omega) (HBg _ mC)
  have b21 := More.turn (b20.trans mC) T21 (fun k hk => Nat.le_trans (More.size (b9.trans mC)) (lx1 k hk))
  try clear HBa0_20
  try clear HBa0s20
  clear HBa0
  have HBa0 := fun (w' : World) (h : More w21 w') => kp6 h HBa0z' HBa0k
  try clear HBa0z
  have HBa0z := HBa0z'; clear HBa0z' HBa0k
  have HBa0_21 := HBa0 w21 (More.refl _)
  have HBa0s21 := HBa0z
  try clear HBa1_20
  try clear HBa1s20
  clear HBa1
  have HBa1 := fun (w' : World) (h : More w21 w') => kp6 h HBa1z' HBa1k
  try clear HBa1z
  have HBa1z := HBa1z'; clear HBa1z' HBa1k
  have HBa1_21 := HBa1 w21 (More.refl _)
  have HBa1s21 := HBa1z
  try clear HBa2_20
  try clear HBa2s20
  clear HBa2
  have HBa2 := fun (w' : World) (h : More w21 w') => kp6 h HBa2z' HBa2k
  try clear HBa2z
  have HBa2z := HBa2z'; clear HBa2z' HBa2k
  have HBa2_21 := HBa2 w21 (More.refl _)
  have HBa2s21 := HBa2z
  try clear HBy_20
  try clear HBys20
  clear HBy
  have HBy := fun (w' : World) (h : More w21 w') => kp3 h HByz' HByk
  try clear HByz
  have HByz := HByz'; clear HByz' HByk
  have HBy_21 := HBy w21 (More.refl _)
  have HBys21 := HByz
  try clear HBx0_20
  try clear HBx0s20
  clear HBx0
  have HBx0 := fun (w' : World) (h : More w21 w') => kp6 h HBx0z' HBx0k
  try clear HBx0z
  have HBx0z := HBx0z'; clear HBx0z' HBx0k
  have HBx0_21 := HBx0 w21 (More.refl _)
  have HBx0s21 := HBx0z
  try clear HBx1_20
  try clear HBx1s20
  clear HBx1
  have HBx1 := fun (w' : World) (h : More w21 w') => kp6 h HBx1z' HBx1k
  try clear HBx1z
  have HBx1z := HBx1z'; clear HBx1z' HBx1k
  have HBx1_21 := HBx1 w21 (More.refl _)
  have HBx1s21 := HBx1z
  try clear HBx2_20
  try clear HBx2s20
  clear HBx2
  have HBx2 := fun (w' : World) (h : More w21 w') => kp6 h HBx2z' HBx2k
  try clear HBx2z
  have HBx2z := HBx2z'; clear HBx2z' HBx2k
  have HBx2_21 := HBx2 w21 (More.refl _)
  have HBx2s21 := HBx2z
  try clear HBg_20
  try clear HBgs20
  clear HBg
  have HBg := fun (w' : World) (h : More w21 w') => kp3 h HBgz' HBgk
  try clear HBgz
  have HBgz := HBgz'; clear HBgz' HBgk
  have HBg_21 := HBg w21 (More.refl _)
  have HBgs21 := HBgz
  have k21 : 0 ≤ 1 + ((cPoint a : Nat) : Int) + ((cPoint b : Nat) : Int) := by omega
  go_wp2_with fail
  refine (laws_markPoint_ bx2 _ c _ _ (Ty.own_more x2o21 mC) nx2 (by omega) (by have h09 := HC0.out; have h19 := HC1.out; have h29 := HC2.out; have := HC2.out; omega) Hs2.out).mono ?_
  rintro e w22 ⟨rfl, T22, M22⟩
  have go22 := Ty.own_turns (Ty.own_more go21 mC) T22 (fun k hk hk' => by have h1 := lg_x2 k hk; have h2 := tPoint.own_lt X2 k hk'; omega)
  have HBa0z' : W.heap.size < w22.heap.size := Nat.lt_of_lt_of_le (Nat.lt_of_lt_of_le HBa0z (More.size (show More (w21) _ from mC))) T22.size
  have HBa0k := tc6 T22 (Nat.lt_of_lt_of_le HBa0z (More.size (show More (w21) _ from mC))) (fun h => by have h1 := HBa0ltx2 _ h; omega) (HBa0 _ mC)
  have HBa1z' : W.heap.size + 1 < w22.heap.size := Nat.lt_of_lt_of_le (Nat.lt_of_lt_of_le HBa1z (More.size (show More (w21) _ from mC))) T22.size
  have HBa1k := tc6 T22 (Nat.lt_of_lt_of_le HBa1z (More.size (show More (w21) _ from mC))) (fun h => by have h1 := HBa1ltx2 _ h; omega) (HBa1 _ mC)
  have HBa2z' : W.heap.size + 1 + 1 < w22.heap.size := Nat.lt_of_lt_of_le (Nat.lt_of_lt_of_le HBa2z (More.size (show More (w21) _ from mC))) T22.size
  have HBa2k := tc6 T22 (Nat.lt_of_lt_of_le HBa2z (More.size (show More (w21) _ from mC))) (fun h => by have h1 := HBa2ltx2 _ h; omega) (HBa2 _ mC)
  have HByz' : nby < w22.heap.size := Nat.lt_of_lt_of_le (Nat.lt_of_lt_of_le HByz (More.size (show More (w21) _ from mC))) T22.size
  have HByk := tc3 T22 (Nat.lt_of_lt_of_le HByz (More.size (show More (w21) _ from mC))) (fun h => by have h1 := HByltx2 _ h; omega) (HBy _ mC)
  have HBx0z' : w9.heap.size < w22.heap.size := Nat.lt_of_lt_of_le (Nat.lt_of_lt_of_le HBx0z (More.size (show More (w21) _ from mC))) T22.size
  have HBx0k := tc6 T22 (Nat.lt_of_lt_of_le HBx0z (More.size (show More (w21) _ from mC))) (fun h => by have h1 := HBx0ltx2 _ h; omega) (HBx0 _ mC)
  have HBx1z' : w10.heap.size < w22.heap.size := Nat.lt_of_lt_of_le (Nat.lt_of_lt_of_le HBx1z (More.size (show More (w21) _ from mC))) T22.size
  have HBx1k := tc6 T22 (Nat.lt_of_lt_of_le HBx1z (More.size (show More (w21) _ from mC))) (fun h => by have h1 := HBx1ltx2 _ h; omega) (HBx1 _ mC)
  have HBx2z' : w11.heap.size < w22.heap.size := Nat.lt_of_lt_of_le (Nat.lt_of_lt_of_le HBx2z (More.size (show More (w21) _ from mC))) T22.size
  have HBx2k := tc6 T22 (Nat.lt_of_lt_of_le HBx2z (More.size (show More (w21) _ from mC))) (fun h => by have h1 := HBx2gex2; have h2 := tPoint.own_lt X2 _ h; omega) (HBx2 _ mC)
  have HBgz' : w12.heap.size < w22.heap.size := Nat.lt_of_lt_of_le (Nat.lt_of_lt_of_le HBgz (More.size (show More (w21) _ from mC))) T22.size
  have HBgk := tc3 T22 (Nat.lt_of_lt_of_le HBgz (More.size (show More (w21) _ from mC))) (fun h => by have h1 := HBggex2; have h2 := tPoint.own_lt X2 _ h; omega) (HBg _ mC)
  have b22 := More.turn (b21.trans mC) T22 (fun k hk => Nat.le_trans (More.size (b9.trans mC)) (lx2 k hk))
  try clear HBa0_21
  try clear HBa0s21
  clear HBa0
  have HBa0 := fun (w' : World) (h : More w22 w') => kp6 h HBa0z' HBa0k
  try clear HBa0z
  have HBa0z := HBa0z'; clear HBa0z' HBa0k
  have HBa0_22 := HBa0 w22 (More.refl _)
  have HBa0s22 := HBa0z
  try clear HBa1_21
  try clear HBa1s21
  clear HBa1
  have HBa1 := fun (w' : World) (h : More w22 w') => kp6 h HBa1z' HBa1k
  try clear HBa1z
  have HBa1z := HBa1z'; clear HBa1z' HBa1k
  have HBa1_22 := HBa1 w22 (More.refl _)
  have HBa1s22 := HBa1z
  try clear HBa2_21
  try clear HBa2s21
  clear HBa2
  have HBa2 := fun (w' : World) (h : More w22 w') => kp6 h HBa2z' HBa2k
  try clear HBa2z
  have HBa2z := HBa2z'; clear HBa2z' HBa2k
  have HBa2_22 := HBa2 w22 (More.refl _)
  have HBa2s22 := HBa2z
  try clear HBy_21
  try clear HBys21
  clear HBy
  have HBy := fun (w' : World) (h : More w22 w') => kp3 h HByz' HByk
  try clear HByz
  have HByz := HByz'; clear HByz' HByk
  have HBy_22 := HBy w22 (More.refl _)
  have HBys22 := HByz
  try clear HBx0_21
  try clear HBx0s21
  clear HBx0
  have HBx0 := fun (w' : World) (h : More w22 w') => kp6 h HBx0z' HBx0k
  try clear HBx0z
  have HBx0z := HBx0z'; clear HBx0z' HBx0k
  have HBx0_22 := HBx0 w22 (More.refl _)
  have HBx0s22 := HBx0z
  try clear HBx1_21
  try clear HBx1s21
  clear HBx1
  have HBx1 := fun (w' : World) (h : More w22 w') => kp6 h HBx1z' HBx1k
  try clear HBx1z
  have HBx1z := HBx1z'; clear HBx1z' HBx1k
  have HBx1_22 := HBx1 w22 (More.refl _)
  have HBx1s22 := HBx1z
  try clear HBx2_21
  try clear HBx2s21
  clear HBx2
  have HBx2 := fun (w' : World) (h : More w22 w') => kp6 h HBx2z' HBx2k
  try clear HBx2z
  have HBx2z := HBx2z'; clear HBx2z' HBx2k
  have HBx2_22 := HBx2 w22 (More.refl _)
  have HBx2s22 := HBx2z
  try clear HBg_21
  try clear HBgs21
  clear HBg
  have HBg := fun (w' : World) (h : More w22 w') => kp3 h HBgz' HBgk
  try clear HBgz
  have HBgz := HBgz'; clear HBgz' HBgk
  have HBg_22 := HBg w22 (More.refl _)
  have HBgs22 := HBgz
  have k22 : ¬ (1 + ((cPoint a : Nat) : Int) + ((cPoint b : Nat) : Int) + ((cPoint c : Nat) : Int) < 0) := by omega
  go_wp2_with fail
  refine (laws_eqRat _ _ r _ (Ty.at_more (Ty.rd_at (tRat.own_rd go22)) mC) (Ty.at_more (Ty.fresh_at Fy) mC) HrL.out).mono ?_
  rintro e w23 ⟨rfl, b23⟩
  have HBa0_23 := HBa0 w23 mC
  have HBa0s23 : W.heap.size < w23.heap.size := by have := More.size (show More w22 w23 from mC); have := HBa0z; omega
  try clear HBa0_22
  try clear HBa0s22
  have HBa1_23 := HBa1 w23 mC
  have HBa1s23 : W.heap.size + 1 < w23.heap.size := by have := More.size (show More w22 w23 from mC); have := HBa1z; omega
  try clear HBa1_22
  try clear HBa1s22
  have HBa2_23 := HBa2 w23 mC
  have HBa2s23 : W.heap.size + 1 + 1 < w23.heap.size := by have := More.size (show More w22 w23 from mC); have := HBa2z; omega
  try clear HBa2_22
  try clear HBa2s22
  have HBy_23 := HBy w23 mC
  have HBys23 : nby < w23.heap.size := by have := More.size (show More w22 w23 from mC); have := HByz; omega
  try clear HBy_22
  try clear HBys22
  have HBx0_23 := HBx0 w23 mC
  have HBx0s23 : w9.heap.size < w23.heap.size := by have := More.size (show More w22 w23 from mC); have := HBx0z; omega
  try clear HBx0_22
  try clear HBx0s22
  have HBx1_23 := HBx1 w23 mC
  have HBx1s23 : w10.heap.size < w23.heap.size := by have := More.size (show More w22 w23 from mC); have := HBx1z; omega
  try clear HBx1_22
  try clear HBx1s22
  have HBx2_23 := HBx2 w23 mC
  have HBx2s23 : w11.heap.size < w23.heap.size := by have := More.size (show More w22 w23 from mC); have := HBx2z; omega
  try clear HBx2_22
  try clear HBx2s22
  have HBg_23 := HBg w23 mC
  have HBgs23 : w12.heap.size < w23.heap.size := by have := More.size (show More w22 w23 from mC); have := HBgz; omega
  try clear HBg_22
  try clear HBgs22
  go_wp2_with fail
  refine (laws_markRat_ bg _ r _ _ (Ty.own_more go22 mC) ng (by omega) (by have h09 := HC0.out; have h19 := HC1.out; have h29 := HC2.out; have := HrC.out; omega) HrL.out).mono ?_
  rintro e w24 ⟨rfl, T24, M24⟩
  have HBa0z' : W.heap.size < w24.heap.size := Nat.lt_of_lt_of_le (Nat.lt_of_lt_of_le HBa0z (More.size (show More (w22) _ from mC))) T24.size
  have HBa0k := tc6 T24 (Nat.lt_of_lt_of_le HBa0z (More.size (show More (w22) _ from mC))) (fun h => by have h1 := HBa0ltg _ h; omega) (HBa0 _ mC)
  have HBa1z' : W.heap.size + 1 < w24.heap.size := Nat.lt_of_lt_of_le (Nat.lt_of_lt_of_le HBa1z (More.size (show More (w22) _ from mC))) T24.size
  have HBa1k := tc6 T24 (Nat.lt_of_lt_of_le HBa1z (More.size (show More (w22) _ from mC))) (fun h => by have h1 := HBa1ltg _ h; omega) (HBa1 _ mC)
  have HBa2z' : W.heap.size + 1 + 1 < w24.heap.size := Nat.lt_of_lt_of_le (Nat.lt_of_lt_of_le HBa2z (More.size (show More (w22) _ from mC))) T24.size
  have HBa2k := tc6 T24 (Nat.lt_of_lt_of_le HBa2z (More.size (show More (w22) _ from mC))) (fun h => by have h1 := HBa2ltg _ h; omega) (HBa2 _ mC)
  have HByz' : nby < w24.heap.size := Nat.lt_of_lt_of_le (Nat.lt_of_lt_of_le HByz (More.size (show More (w22) _ from mC))) T24.size
  have HByk := tc3 T24 (Nat.lt_of_lt_of_le HByz (More.size (show More (w22) _ from mC))) (fun h => by have h1 := HByltg _ h; omega) (HBy _ mC)
  have HBx0z' : w9.heap.size < w24.heap.size := Nat.lt_of_lt_of_le (Nat.lt_of_lt_of_le HBx0z (More.size (show More (w22) _ from mC))) T24.size
  have HBx0k := tc6 T24 (Nat.lt_of_lt_of_le HBx0z (More.size (show More (w22) _ from mC))) (fun h => by have h1 := HBx0ltg _ h; omega) (HBx0 _ mC)
  have HBx1z' : w10.heap.size < w24.heap.size := Nat.lt_of_lt_of_le (Nat.lt_of_lt_of_le HBx1z (More.size (show More (w22) _ from mC))) T24.size
  have HBx1k := tc6 T24 (Nat.lt_of_lt_of_le HBx1z (More.size (show More (w22) _ from mC))) (fun h => by have h1 := HBx1ltg _ h; omega) (HBx1 _ mC)
  have HBx2z' : w11.heap.size < w24.heap.size := Nat.lt_of_lt_of_le (Nat.lt_of_lt_of_le HBx2z (More.size (show More (w22) _ from mC))) T24.size
  have HBx2k := tc6 T24 (Nat.lt_of_lt_of_le HBx2z (More.size (show More (w22) _ from mC))) (fun h => by have h1 := HBx2ltg _ h; omega) (HBx2 _ mC)
  have HBgz' : w12.heap.size < w24.heap.size := Nat.lt_of_lt_of_le (Nat.lt_of_lt_of_le HBgz (More.size (show More (w22) _ from mC))) T24.size
  have HBgk := tc3 T24 (Nat.lt_of_lt_of_le HBgz (More.size (show More (w22) _ from mC))) (fun h => by have h1 := HBggeg; have h2 := tRat.own_lt G _ h; omega) (HBg _ mC)
  have b24 := More.turn (b22.trans mC) T24 (fun k hk => Nat.le_trans (More.size (b9.trans mC)) (lg k hk))
  try clear HBa0_23
  try clear HBa0s23
  clear HBa0
  have HBa0 := fun (w' : World) (h : More w24 w') => kp6 h HBa0z' HBa0k
  try clear HBa0z
  have HBa0z := HBa0z'; clear HBa0z' HBa0k
  have HBa0_24 := HBa0 w24 (More.refl _)
  have HBa0s24 := HBa0z
  try clear HBa1_23
  try clear HBa1s23
  clear HBa1
  have HBa1 := fun (w' : World) (h : More w24 w') => kp6 h HBa1z' HBa1k
  try clear HBa1z
  have HBa1z := HBa1z'; clear HBa1z' HBa1k
  have HBa1_24 := HBa1 w24 (More.refl _)
  have HBa1s24 := HBa1z
  try clear HBa2_23
  try clear HBa2s23
  clear HBa2
  have HBa2 := fun (w' : World) (h : More w24 w') => kp6 h HBa2z' HBa2k
  try clear HBa2z
  have HBa2z := HBa2z'; clear HBa2z' HBa2k
  have HBa2_24 := HBa2 w24 (More.refl _)
  have HBa2s24 := HBa2z
  try clear HBy_23
  try clear HBys23
  clear HBy
  have HBy := fun (w' : World) (h : More w24 w') => kp3 h HByz' HByk
  try clear HByz
  have HByz := HByz'; clear HByz' HByk
  have HBy_24 := HBy w24 (More.refl _)
  have HBys24 := HByz
  try clear HBx0_23
  try clear HBx0s23
  clear HBx0
  have HBx0 := fun (w' : World) (h : More w24 w') => kp6 h HBx0z' HBx0k
  try clear HBx0z
  have HBx0z := HBx0z'; clear HBx0z' HBx0k
  have HBx0_24 := HBx0 w24 (More.refl _)
  have HBx0s24 := HBx0z
  try clear HBx1_23
  try clear HBx1s23
  clear HBx1
  have HBx1 := fun (w' : World) (h : More w24 w') => kp6 h HBx1z' HBx1k
  try clear HBx1z
  have HBx1z := HBx1z'; clear HBx1z' HBx1k
  have HBx1_24 := HBx1 w24 (More.refl _)
  have HBx1s24 := HBx1z
  try clear HBx2_23
  try clear HBx2s23
  clear HBx2
  have HBx2 := fun (w' : World) (h : More w24 w') => kp6 h HBx2z' HBx2k
  try clear HBx2z
  have HBx2z := HBx2z'; clear HBx2z' HBx2k
  have HBx2_24 := HBx2 w24 (More.refl _)
  have HBx2s24 := HBx2z
  try clear HBg_23
  try clear HBgs23
  clear HBg
  have HBg := fun (w' : World) (h : More w24 w') => kp3 h HBgz' HBgk
  try clear HBgz
  have HBgz := HBgz'; clear HBgz' HBgk
  have HBg_24 := HBg w24 (More.refl _)
  have HBgs24 := HBgz
  go_wp2_with fail
  refine (laws_heldRat_ _ r _ _ (Ty.at_more (Ty.rd_at (tRat.own_rd M24)) mC) (by decide) (by have := HrC.out; omega) HrL.out).mono ?_
  rintro e w25 ⟨rfl, b25⟩
  have HBa0_25 := HBa0 w25 mC
  have HBa0s25 : W.heap.size < w25.heap.size := by have := More.size (show More w24 w25 from mC); have := HBa0z; omega
  try clear HBa0_24
  try clear HBa0s24
  have HBa1_25 := HBa1 w25 mC
  have HBa1s25 : W.heap.size + 1 < w25.heap.size := by have := More.size (show More w24 w25 from mC); have := HBa1z; omega
  try clear HBa1_24
  try clear HBa1s24
  have HBa2_25 := HBa2 w25 mC
  have HBa2s25 : W.heap.size + 1 + 1 < w25.heap.size := by have := More.size (show More w24 w25 from mC); have := HBa2z; omega
  try clear HBa2_24
  try clear HBa2s24
  have HBy_25 := HBy w25 mC
  have HBys25 : nby < w25.heap.size := by have := More.size (show More w24 w25 from mC); have := HByz; omega
  try clear HBy_24
  try clear HBys24
  have HBx0_25 := HBx0 w25 mC
  have HBx0s25 : w9.heap.size < w25.heap.size := by have := More.size (show More w24 w25 from mC); have := HBx0z; omega
  try clear HBx0_24
  try clear HBx0s24
  have HBx1_25 := HBx1 w25 mC
  have HBx1s25 : w10.heap.size < w25.heap.size := by have := More.size (show More w24 w25 from mC); have := HBx1z; omega
  try clear HBx1_24
  try clear HBx1s24
  have HBx2_25 := HBx2 w25 mC
  have HBx2s25 : w11.heap.size < w25.heap.size := by have := More.size (show More w24 w25 from mC); have := HBx2z; omega
  try clear HBx2_24
  try clear HBx2s24
  have HBg_25 := HBg w25 mC
  have HBgs25 : w12.heap.size < w25.heap.size := by have := More.size (show More w24 w25 from mC); have := HBgz; omega
  try clear HBg_24
  try clear HBgs24
  have q25 : ¬ ((1 : Int) + ((cRat r : Nat) : Int) < 0) := by omega
  go_wp2_with fail
  have RHBa0 := fun (w' : World) (h : More w25 w') => HBa0 w' (More.trans (show More _ w25 from mC) h)
  clear HBa0_25
  have RHBa1 := fun (w' : World) (h : More w25 w') => HBa1 w' (More.trans (show More _ w25 from mC) h)
  clear HBa1_25
  have RHBa2 := fun (w' : World) (h : More w25 w') => HBa2 w' (More.trans (show More _ w25 from mC) h)
  clear HBa2_25
  have RHBy := fun (w' : World) (h : More w25 w') => HBy w' (More.trans (show More _ w25 from mC) h)
  clear HBy_25
  have RHBx0 := fun (w' : World) (h : More w25 w') => HBx0 w' (More.trans (show More _ w25 from mC) h)
  clear HBx0_25
  have RHBx1 := fun (w' : World) (h : More w25 w') => HBx1 w' (More.trans (show More _ w25 from mC) h)
  clear HBx1_25
  have RHBx2 := fun (w' : World) (h : More w25 w') => HBx2 w' (More.trans (show More _ w25 from mC) h)
  clear HBx2_25
  have RHBg := fun (w' : World) (h : More w25 w') => HBg w' (More.trans (show More _ w25 from mC) h)
  clear HBg_25
  go_cut [16] (fun sl wx => ∃ (nb : Nat) (hra1 : Option Addr) (hrn1 : Nat) (hrc1 : Nat) (hra2 : Option Addr) (hrn2 : Nat) (hrc2 : Nat), sl = .pointer (some ⟨nb, 0, none⟩) ∧ More w25 wx ∧ w25.heap.size ≤ nb ∧ Box3 wx nb (.bool r.1.1) (.slice hra1 hrn1 hrc1) (.slice hra2 hrn2 hrc2) ∧ Hid (∃ bs, tRat.own bs wx [.bool r.1.1, .slice hra1 hrn1 hrc1, .slice hra2 hrn2 hrc2] r ∧ bs.Nodup ∧ (∀ b ∈ bs, w25.heap.size ≤ b) ∧ nb ∉ bs))
  case first =>
    go_region_held3 (fun w' => More w25 w') (first | exact More.refl _ | exact mC2) (first | (go_at_call 33; (with_reducible refine (laws_toPoint _ a _ (Ty.at_more HV0.out mC) Hs0.out).mono ?_); rintro e w26 ⟨z0, rfl, b26, Fz0⟩; obtain ⟨z0za1, z0zn1, z0zc1, z0za2, z0zn2, z0zc2, z0za4, z0zn4, z0zc4, z0za5, z0zn5, z0zc5, rfl⟩ := sh_Point (Ty.fresh_at Fz0); (have z26 : w25.heap.size ≤ w26.heap.size := by have := b26.size; (try simp at this); omega); (try (have N0 : Box3 w26 (w25.heap.size) (.bool false) (.slice none 0 0) (.slice none 0 0) := Box3.newD (by simp) b26)); (try (have n0c0 := N0.c0; have n0c1 := N0.c1; have n0fr := N0.fr; have n0c2 := N0.c2))) | (go_at_call 33; (with_reducible refine (laws_toPoint _ b _ (Ty.at_more HV1.out mC) Hs1.out).mono ?_); rintro e w27 ⟨z1, rfl, b27, Fz1⟩; obtain ⟨z1za1, z1zn1, z1zc1, z1za2, z1zn2, z1zc2, z1za4, z1zn4, z1zc4, z1za5, z1zn5, z1zc5, rfl⟩ := sh_Point (Ty.fresh_at Fz1); (have z27 : w25.heap.size ≤ w27.heap.size := by have := b27.size; (try simp at this); omega); (try (have N0 : Box3 w27 (w25.heap.size) (.bool false) (.slice none 0 0) (.slice none 0 0) := Box3.keep N0 b27)); (try (have n0c0 := N0.c0; have n0c1 := N0.c1; have n0fr := N0.fr; have n0c2 := N0.c2)); (try (have N1 : Box3 w27 (w26.heap.size) (.bool false) (.slice none 0 0) (.slice none 0 0) := Box3.new (by simp) b27)); (try (have n1c0 := N1.c0; have n1c1 := N1.c1; have n1fr := N1.fr; have n1c2 := N1.c2))) | (go_at_call 33; (with_reducible refine (laws_toPoint _ c _ (Ty.at_more HV2.out mC) Hs2.out).mono ?_); rintro e w28 ⟨z2, rfl, b28, Fz2⟩; obtain ⟨z2za1, z2zn1, z2zc1, z2za2, z2zn2, z2zc2, z2za4, z2zn4, z2zc4, z2za5, z2zn5, z2zc5, rfl⟩ := sh_Point (Ty.fresh_at Fz2); (have z28 : w25.heap.size ≤ w28.heap.size := by have := b28.size; (try simp at this); omega); (try (have N0 : Box3 w28 (w25.heap.size) (.bool false) (.slice none 0 0) (.slice none 0 0) := Box3.keep N0 b28)); (try (have n0c0 := N0.c0; have n0c1 := N0.c1; have n0fr := N0.fr; have n0c2 := N0.c2)); (try (have N1 : Box3 w28 (w26.heap.size) (.bool false) (.slice none 0 0) (.slice none 0 0) := Box3.keep N1 b28)); (try (have n1c0 := N1.c0; have n1c1 := N1.c1; have n1fr := N1.fr; have n1c2 := N1.c2)); (try (have N2 : Box3 w28 (w27.heap.size) (.bool false) (.slice none 0 0) (.slice none 0 0) := Box3.new (by simp) b28)); (try (have n2c0 := N2.c0; have n2c1 := N2.c1; have n2fr := N2.fr; have n2c2 := N2.c2))) | (go_at_call 34; (with_reducible refine (impl_SquareToSegmentL _ _ _ a b c _ (Ty.at_more (Ty.fresh_at Fz0) (Turns.more (by ((repeat (first | (with_reducible apply Turns.drew) | (with_reducible apply Turns.drewN) | (with_reducible apply Turns.alloc))); (with_reducible refine Turns.via b28 ?_); (repeat (first | (with_reducible apply Turns.drew) | (with_reducible apply Turns.drewN) | (with_reducible apply Turns.alloc))); (with_reducible refine Turns.via b27 ?_); (repeat (first | (with_reducible apply Turns.drew) | (with_reducible apply Turns.drewN) | (with_reducible apply Turns.alloc))); exact Turns.refl _ _)))) Hs0.out (Ty.at_more (Ty.fresh_at Fz1) (Turns.more (by ((repeat (first | (with_reducible apply Turns.drew) | (with_reducible apply Turns.drewN) | (with_reducible apply Turns.alloc))); (with_reducible refine Turns.via b28 ?_); (repeat (first | (with_reducible apply Turns.drew) | (with_reducible apply Turns.drewN) | (with_reducible apply Turns.alloc))); exact Turns.refl _ _)))) Hs1.out (Ty.at_more (Ty.fresh_at Fz2) (Turns.more (by ((repeat (first | (with_reducible apply Turns.drew) | (with_reducible apply Turns.drewN) | (with_reducible apply Turns.alloc))); exact Turns.refl _ _)))) Hs2.out).mono ?_); rintro e w29 ⟨q9, rfl, b29, F9⟩; rw [← ER.out] at F9; obtain ⟨hra1, hrn1, hrc1, hra2, hrn2, hrc2, rfl⟩ := sh_Rat (Ty.fresh_at F9); have F9h := Lib.hid F9; clear F9; (have z29 : w25.heap.size ≤ w29.heap.size := by have := b29.size; (try simp at this); omega); (try (have N0 : Box3 w29 (w25.heap.size) (.bool false) (.slice none 0 0) (.slice none 0 0) := Box3.keep N0 b29)); (try (have n0c0 := N0.c0; have n0c1 := N0.c1; have n0fr := N0.fr; have n0c2 := N0.c2)); (try (have N1 : Box3 w29 (w26.heap.size) (.bool false) (.slice none 0 0) (.slice none 0 0) := Box3.keep N1 b29)); (try (have n1c0 := N1.c0; have n1c1 := N1.c1; have n1fr := N1.fr; have n1c2 := N1.c2)); (try (have N2 : Box3 w29 (w27.heap.size) (.bool false) (.slice none 0 0) (.slice none 0 0) := Box3.keep N2 b29)); (try (have n2c0 := N2.c0; have n2c1 := N2.c1; have n2fr := N2.fr; have n2c2 := N2.c2)); (try (have N3 : Box3 w29 (w28.heap.size) (.bool false) (.slice none 0 0) (.slice none 0 0) := Box3.new (by simp) b29)); (try (have n3c0 := N3.c0; have n3c1 := N3.c1; have n3fr := N3.fr; have n3c2 := N3.c2))))
    all_goals
      go_wp2_with fail
      go_meet
      first | exact ⟨w29.heap.size, _, _, _, _, _, _, rfl, mC, More.size (show More w25 w29 from mC), Box3.new rfl (More.refl _), Lib.hid (fresh_after F9h.out (by have s26 := b26.size; (try simp at s26); have s27 := b27.size; (try simp at s27); have s28 := b28.size; (try simp at s28); have s29 := b29.size; (try simp at s29); (try simp) <;> omega) _)⟩ | exact ⟨w25.heap.size, _, _, _, _, _, _, rfl, Box3.more (show More w25 w29 from mC) (by have s26 := b26.size; (try simp at s26); have s27 := b27.size; (try simp at s27); have s28 := b28.size; (try simp at s28); have s29 := b29.size; (try simp at s29); omega), (by have s26 := b26.size; (try simp at s26); have s27 := b27.size; (try simp at s27); have s28 := b28.size; (try simp at s28); have s29 := b29.size; (try simp at s29); omega), Box3.set N0, Lib.hid (fresh_before F9h.out (by have s26 := b26.size; (try simp at s26); have s27 := b27.size; (try simp at s27); have s28 := b28.size; (try simp at s28); have s29 := b29.size; (try simp at s29); (try simp) <;> omega) (by have s26 := b26.size; (try simp at s26); have s27 := b27.size; (try simp at s27); have s28 := b28.size; (try simp at s28); have s29 := b29.size; (try simp at s29); (try simp) <;> omega) ((((Turns.refl _ _).setCell (.inl (by simp)) _).setCell (.inl (by simp)) _).setCell (.inl (by simp)) _))⟩ | exact ⟨w26.heap.size, _, _, _, _, _, _, rfl, Box3.more (show More w25 w29 from mC) (by have s26 := b26.size; (try simp at s26); have s27 := b27.size; (try simp at s27); have s28 := b28.size; (try simp at s28); have s29 := b29.size; (try simp at s29); omega), (by have s26 := b26.size; (try simp at s26); have s27 := b27.size; (try simp at s27); have s28 := b28.size; (try simp at s28); have s29 := b29.size; (try simp at s29); omega), Box3.set N1, Lib.hid (fresh_before F9h.out (by have s26 := b26.size; (try simp at s26); have s27 := b27.size; (try simp at s27); have s28 := b28.size; (try simp at s28); have s29 := b29.size; (try simp at s29); (try simp) <;> omega) (by have s26 := b26.size; (try simp at s26); have s27 := b27.size; (try simp at s27); have s28 := b28.size; (try simp at s28); have s29 := b29.size; (try simp at s29); (try simp) <;> omega) ((((Turns.refl _ _).setCell (.inl (by simp)) _).setCell (.inl (by simp)) _).setCell (.inl (by simp)) _))⟩ | exact ⟨w27.heap.size, _, _, _, _, _, _, rfl, Box3.more (show More w25 w29 from mC) (by have s26 := b26.size; (try simp at s26); have s27 := b27.size; (try simp at s27); have s28 := b28.size; (try simp at s28); have s29 := b29.size; (try simp at s29); omega), (by have s26 := b26.size; (try simp at s26); have s27 := b27.size; (try simp at s27); have s28 := b28.size; (try simp at s28); have s29 := b29.size; (try simp at s29); omega), Box3.set N2, Lib.hid (fresh_before F9h.out (by have s26 := b26.size; (try simp at s26); have s27 := b27.size; (try simp at s27); have s28 := b28.size; (try simp at s28); have s29 := b29.size; (try simp at s29); (try simp) <;> omega) (by have s26 := b26.size; (try simp at s26); have s27 := b27.size; (try simp at s27); have s28 := b28.size; (try simp at s28); have s29 := b29.size; (try simp at s29); (try simp) <;> omega) ((((Turns.refl _ _).setCell (.inl (by simp)) _).setCell (.inl (by simp)) _).setCell (.inl (by simp)) _))⟩ | exact ⟨w28.heap.size, _, _, _, _, _, _, rfl, Box3.more (show More w25 w29 from mC) (by have s26 := b26.size; (try simp at s26); have s27 := b27.size; (try simp at s27); have s28 := b28.size; (try simp at s28); have s29 := b29.size; (try simp at s29); omega), (by have s26 := b26.size; (try simp at s26); have s27 := b27.size; (try simp at s27); have s28 := b28.size; (try simp at s28); have s29 := b29.size; (try simp at s29); omega), Box3.set N3, Lib.hid (fresh_before F9h.out (by have s26 := b26.size; (try simp at s26); have s27 := b27.size; (try simp at s27); have s28 := b28.size; (try simp at s28); have s29 := b29.size; (try simp at s29); (try simp) <;> omega) (by have s26 := b26.size; (try simp at s26); have s27 := b27.size; (try simp at s27); have s28 := b28.size; (try simp at s28); have s29 := b29.size; (try simp at s29); (try simp) <;> omega) ((((Turns.refl _ _).setCell (.inl (by simp)) _).setCell (.inl (by simp)) _).setCell (.inl (by simp)) _))⟩
  case rest =>
  rename World => w30
  obtain ⟨nbh, hra1, hrn1, hrc1, hra2, hrn2, hrc2, rfl, b30, hnh, hBh, hFh⟩ := hcut
  have Fh : tRat.fresh w25.heap.size w30 [.bool r.1.1, .slice hra1 hrn1 hrc1, .slice hra2 hrn2 hrc2] r := by obtain ⟨q1, q2, q3, q4, _⟩ := hFh.out; exact ⟨q1, q2, q3, q4⟩
  clear RHBa0
  clear RHBa1
  clear RHBa2
  clear RHBy
  clear RHBx0
  clear RHBx1
  clear RHBx2
  clear RHBg
  have HBh : ∀ w', More w30 w' → w'.cell? ⟨nbh, 0, none⟩ = some (.bool r.1.1) ∧ w'.cell? ⟨nbh, 1, none⟩ = some (.slice hra1 hrn1 hrc1) ∧ w'.cell? ⟨nbh, 2, none⟩ = some (.slice hra2 hrn2 hrc2) := fun w' h => ⟨(hBh.keep h).c0, (hBh.keep h).c1, (hBh.keep h).c2⟩
  have HBhz := hBh.lt
  have HBa0_30 := HBa0 w30 mC
  have HBa0s30 : W.heap.size < w30.heap.size := by have := More.size (show More w24 w30 from mC); have := HBa0z; omega
  try clear HBa0_29
  try clear HBa0s29
  have HBa1_30 := HBa1 w30 mC
  have HBa1s30 : W.heap.size + 1 < w30.heap.size := by have := More.size (show More w24 w30 from mC); have := HBa1z; omega
  try clear HBa1_29
  try clear HBa1s29
  have HBa2_30 := HBa2 w30 mC
  have HBa2s30 : W.heap.size + 1 + 1 < w30.heap.size := by have := More.size (show More w24 w30 from mC); have := HBa2z; omega
  try clear HBa2_29
  try clear HBa2s29
  have HBy_30 := HBy w30 mC
  have HBys30 : nby < w30.heap.size := by have := More.size (show More w24 w30 from mC); have := HByz; omega
  try clear HBy_29
  try clear HBys29
  have HBx0_30 := HBx0 w30 mC
  have HBx0s30 : w9.heap.size < w30.heap.size := by have := More.size (show More w24 w30 from mC); have := HBx0z; omega
  try clear HBx0_29
  try clear HBx0s29
  have HBx1_30 := HBx1 w30 mC
  have HBx1s30 : w10.heap.size < w30.heap.size := by have := More.size (show More w24 w30 from mC); have := HBx1z; omega
  try clear HBx1_29
  try clear HBx1s29
  have HBx2_30 := HBx2 w30 mC
  have HBx2s30 : w11.heap.size < w30.heap.size := by have := More.size (show More w24 w30 from mC); have := HBx2z; omega
  try clear HBx2_29
  try clear HBx2s29
  have HBg_30 := HBg w30 mC
  have HBgs30 : w12.heap.size < w30.heap.size := by have := More.size (show More w24 w30 from mC); have := HBgz; omega
  try clear HBg_29
  try clear HBgs29
  have HBh_30 := HBh w30 (More.refl _)
  have HBhs30 := HBhz
  go_wp2_with fail
  refine (laws_eqRat _ _ r _ (Ty.at_more (Ty.fresh_at Fh) mC) (Ty.at_more (Ty.fresh_at Fy) mC) HrL.out).mono ?_
  rintro e w31 ⟨rfl, b31⟩
  have HBa0_31 := HBa0 w31 mC
  have HBa0s31 : W.heap.size < w31.heap.size := by have := More.size (show More w24 w31 from mC); have := HBa0z; omega
  try clear HBa0_30
  try clear HBa0s30
  have HBa1_31 := HBa1 w31 mC
  have HBa1s31 : W.heap.size + 1 < w31.heap.size := by have := More.size (show More w24 w31 from mC); have := HBa1z; omega
  try clear HBa1_30
  try clear HBa1s30
  have HBa2_31 := HBa2 w31 mC
  have HBa2s31 : W.heap.size + 1 + 1 < w31.heap.size := by have := More.size (show More w24 w31 from mC); have := HBa2z; omega
  try clear HBa2_30
  try clear HBa2s30
  have HBy_31 := HBy w31 mC
  have HBys31 : nby < w31.heap.size := by have := More.size (show More w24 w31 from mC); have := HByz; omega
  try clear HBy_30
  try clear HBys30
  have HBx0_31 := HBx0 w31 mC
  have HBx0s31 : w9.heap.size < w31.heap.size := by have := More.size (show More w24 w31 from mC); have := HBx0z; omega
  try clear HBx0_30
  try clear HBx0s30
  have HBx1_31 := HBx1 w31 mC
  have HBx1s31 : w10.heap.size < w31.heap.size := by have := More.size (show More w24 w31 from mC); have := HBx1z; omega
  try clear HBx1_30
  try clear HBx1s30
  have HBx2_31 := HBx2 w31 mC
  have HBx2s31 : w11.heap.size < w31.heap.size := by have := More.size (show More w24 w31 from mC); have := HBx2z; omega
  try clear HBx2_30
  try clear HBx2s30
  have HBg_31 := HBg w31 mC
  have HBgs31 : w12.heap.size < w31.heap.size := by have := More.size (show More w24 w31 from mC); have := HBgz; omega
  try clear HBg_30
  try clear HBgs30
  have HBh_31 := HBh w31 mC
  have HBhs31 : nbh < w31.heap.size := by have := More.size (show More w30 w31 from mC); have := HBhz; omega
  try clear HBh_30
  try clear HBhs30
  go_wp2_with fail
  refine (laws_heldRat_ _ r _ _ (Ty.at_more (Ty.rd_at (tRat.own_rd M24)) mC) (by decide) (by have := HrC.out; omega) HrL.out).mono ?_
  rintro e w32 ⟨rfl, b32⟩
  have HBa0_32 := HBa0 w32 mC
  have HBa0s32 : W.heap.size < w32.heap.size := by have := More.size (show More w24 w32 from mC); have := HBa0z; omega
  try clear HBa0_31
  try clear HBa0s31
  have HBa1_32 := HBa1 w32 mC
  have HBa1s32 : W.heap.size + 1 < w32.heap.size := by have := More.size (show More w24 w32 from mC); have := HBa1z; omega
  try clear HBa1_31
  try clear HBa1s31
  have HBa2_32 := HBa2 w32 mC
  have HBa2s32 : W.heap.size + 1 + 1 < w32.heap.size := by have := More.size (show More w24 w32 from mC); have := HBa2z; omega
  try clear HBa2_31
  try clear HBa2s31
  have HBy_32 := HBy w32 mC
  have HBys32 : nby < w32.heap.size := by have := More.size (show More w24 w32 from mC); have := HByz; omega
  try clear HBy_31
  try clear HBys31
  have HBx0_32 := HBx0 w32 mC
  have HBx0s32 : w9.heap.size < w32.heap.size := by have := More.size (show More w24 w32 from mC); have := HBx0z; omega
  try clear HBx0_31
  try clear HBx0s31
  have HBx1_32 := HBx1 w32 mC
  have HBx1s32 : w10.heap.size < w32.heap.size := by have := More.size (show More w24 w32 from mC); have := HBx1z; omega
  try clear HBx1_31
  try clear HBx1s31
  have HBx2_32 := HBx2 w32 mC
  have HBx2s32 : w11.heap.size < w32.heap.size := by have := More.size (show More w24 w32 from mC); have := HBx2z; omega
  try clear HBx2_31
  try clear HBx2s31
  have HBg_32 := HBg w32 mC
  have HBgs32 : w12.heap.size < w32.heap.size := by have := More.size (show More w24 w32 from mC); have := HBgz; omega
  try clear HBg_31
  try clear HBgs31
  have HBh_32 := HBh w32 mC
  have HBhs32 : nbh < w32.heap.size := by have := More.size (show More w30 w32 from mC); have := HBhz; omega
  try clear HBh_31
  try clear HBhs31
  have q32 : ¬ ((1 : Int) + ((cRat r : Nat) : Int) < 0) := by omega
  go_wp2_with fail
  go_ret
  exact ⟨rfl, mC⟩
end Go.Proofs.YteihkhniibncnaaGreat
