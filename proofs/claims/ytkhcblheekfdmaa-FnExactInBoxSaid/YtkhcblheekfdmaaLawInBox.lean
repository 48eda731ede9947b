/- FnExactInBox returns true, for every input. -/
import Derived.Test.YtkhcblheekfdmaaIbx
import Derived.Test.YtkhcblheekfdmaaToBox
import Derived.Test.YtkhcblheekfdmaaSzPoint
import Derived.Test.YtkhcblheekfdmaaToPoint
import Derived.Test.YtkhcblheekfdmaaEqPoint
import Derived.Deep.RegionHeld3
namespace Go.Proofs.Ytkhcblheekfdmaa
open Go.RowKit
set_option maxHeartbeats 3200000 in
theorem law_InBox {W : World} (ca0 : Array Value) (b : QBox) (hv0 : tBox.at W ca0.toList b) (ca1 : Array Value) (y : QP) (hv1 : tPoint.at W ca1.toList y) :
    Calls Try.prog 9 #[.agg ca0, .agg ca1] W fun e w' => e = .returned (.bool true) ∧ More W w' := by
  have es0 := sh_Box hv0
  rw [es0] at hv0
  obtain rfl := arr_of es0
  clear es0
  have HV0 := Lib.hid hv0; clear hv0
  obtain ⟨s1a1, s1n1, s1c1, s1a2, s1n2, s1c2, s1a4, s1n4, s1c4, s1a5, s1n5, s1c5, es1⟩ := sh_Point hv1
  rw [es1] at hv1
  obtain rfl := arr_of es1
  clear es1
  have HV1 := Lib.hid hv1; clear hv1
  by_cases hn1 : ((wPoint y : Nat) : Int) ≤ 1048576
  rotate_left
  · have Hbad := Lib.hid hn1; clear hn1
    have HX : More ((W.alloc (.cells #[.int .i64 b.1.1, .int .i64 b.1.2, .int .i64 b.2.1, .int .i64 b.2.2] 80)).alloc (.cells #[.bool y.1.1.1, .slice s1a1 s1n1 s1c1, .slice s1a2 s1n2 s1c2, .bool y.2.1.1, .slice s1a4 s1n4 s1c4, .slice s1a5 s1n5 s1c5] 82)) ((W.alloc (.cells #[.int .i64 b.1.1, .int .i64 b.1.2, .int .i64 b.2.1, .int .i64 b.2.2] 80)).alloc (.cells #[.bool y.1.1.1, .slice s1a1 s1n1 s1c1, .slice s1a2 s1n2 s1c2, .bool y.2.1.1, .slice s1a4 s1n4 s1c4, .slice s1a5 s1n5 s1c5] 82)) := More.refl _
    have HB : ∀ w', More ((W.alloc (.cells #[.int .i64 b.1.1, .int .i64 b.1.2, .int .i64 b.2.1, .int .i64 b.2.2] 80)).alloc (.cells #[.bool y.1.1.1, .slice s1a1 s1n1 s1c1, .slice s1a2 s1n2 s1c2, .bool y.2.1.1, .slice s1a4 s1n4 s1c4, .slice s1a5 s1n5 s1c5] 82)) w' → w'.cell? ⟨W.heap.size, 0, none⟩ = some (.int .i64 b.1.1) ∧ w'.cell? ⟨W.heap.size, 1, none⟩ = some (.int .i64 b.1.2) ∧ w'.cell? ⟨W.heap.size, 2, none⟩ = some (.int .i64 b.2.1) ∧ w'.cell? ⟨W.heap.size, 3, none⟩ = some (.int .i64 b.2.2) ∧ (∀ j, w'.frozen? ⟨W.heap.size, j, none⟩ = false) ∧ w'.cell? ⟨W.heap.size + 1, 0, none⟩ = some (.bool y.1.1.1) ∧ w'.cell? ⟨W.heap.size + 1, 1, none⟩ = some (.slice s1a1 s1n1 s1c1) ∧ w'.cell? ⟨W.heap.size + 1, 2, none⟩ = some (.slice s1a2 s1n2 s1c2) ∧ w'.cell? ⟨W.heap.size + 1, 3, none⟩ = some (.bool y.2.1.1) ∧ w'.cell? ⟨W.heap.size + 1, 4, none⟩ = some (.slice s1a4 s1n4 s1c4) ∧ w'.cell? ⟨W.heap.size + 1, 5, none⟩ = some (.slice s1a5 s1n5 s1c5) ∧ (∀ j, w'.frozen? ⟨W.heap.size + 1, j, none⟩ = false) := fun w' h => ⟨box_new (by simp) (More.un h) 0, box_new (by simp) (More.un h) 1, box_new (by simp) (More.un h) 2, box_new (by simp) (More.un h) 3, fun j => box_free (by simp) (More.un h) j, box_new (by simp) h 0, box_new (by simp) h 1, box_new (by simp) h 2, box_new (by simp) h 3, box_new (by simp) h 4, box_new (by simp) h 5, fun j => box_free (by simp) h j⟩
    go_enter Try.func9, Try.ntmps9
    go_wp2_with fail
    refine (laws_szPoint _ y _ _ (Ty.at_more HV1.out (Turns.more (by repeat (first | (with_reducible exact Turns.refl _ _) | (with_reducible apply Turns.drew) | (with_reducible apply Turns.drewN) | (with_reducible apply Turns.alloc) | (with_reducible refine Turns.via (by assumption) ?_))))) (by decide) (by decide)).mono ?_
    rintro e w1 ⟨rfl, b1⟩
    have HXa1 : Hid (More (((W.alloc (.cells #[.int .i64 b.1.1, .int .i64 b.1.2, .int .i64 b.2.1, .int .i64 b.2.2] 80)).alloc (.cells #[.bool y.1.1.1, .slice s1a1 s1n1 s1c1, .slice s1a2 s1n2 s1c2, .bool y.2.1.1, .slice s1a4 s1n4 s1c4, .slice s1a5 s1n5 s1c5] 82))) w1) := Lib.hid (Turns.more (by repeat (first | (with_reducible exact Turns.refl _ _) | (with_reducible apply Turns.drew) | (with_reducible apply Turns.drewN) | (with_reducible apply Turns.alloc) | (with_reducible refine Turns.via (by assumption) ?_))))
    have HBw1 := HB _ HXa1.out
    have hsHB1_0 : W.heap.size < w1.heap.size := by have := (HXa1.out).size; simp at this; omega
    have hsHB1_1 : W.heap.size + 1 < w1.heap.size := by have := (HXa1.out).size; simp at this; omega
    rw [szI_neg (by have := Hbad.out; omega)]
    go_wp2_with fail
    go_ret
    exact ⟨rfl, (Turns.more (by repeat (first | (with_reducible exact Turns.refl _ _) | (with_reducible apply Turns.drew) | (with_reducible apply Turns.drewN) | (with_reducible apply Turns.alloc) | (with_reducible refine Turns.via (by assumption) ?_))))⟩
  have Hn1 := Lib.hid hn1
  have Hs1 : Hid (wPoint y ≤ 1048576) := Lib.hid (by omega)
  clear hn1
  have HX : More ((W.alloc (.cells #[.int .i64 b.1.1, .int .i64 b.1.2, .int .i64 b.2.1, .int .i64 b.2.2] 80)).alloc (.cells #[.bool y.1.1.1, .slice s1a1 s1n1 s1c1, .slice s1a2 s1n2 s1c2, .bool y.2.1.1, .slice s1a4 s1n4 s1c4, .slice s1a5 s1n5 s1c5] 82)) ((W.alloc (.cells #[.int .i64 b.1.1, .int .i64 b.1.2, .int .i64 b.2.1, .int .i64 b.2.2] 80)).alloc (.cells #[.bool y.1.1.1, .slice s1a1 s1n1 s1c1, .slice s1a2 s1n2 s1c2, .bool y.2.1.1, .slice s1a4 s1n4 s1c4, .slice s1a5 s1n5 s1c5] 82)) := More.refl _
  have HB : ∀ w', More ((W.alloc (.cells #[.int .i64 b.1.1, .int .i64 b.1.2, .int .i64 b.2.1, .int .i64 b.2.2] 80)).alloc (.cells #[.bool y.1.1.1, .slice s1a1 s1n1 s1c1, .slice s1a2 s1n2 s1c2, .bool y.2.1.1, .slice s1a4 s1n4 s1c4, .slice s1a5 s1n5 s1c5] 82)) w' → w'.cell? ⟨W.heap.size, 0, none⟩ = some (.int .i64 b.1.1) ∧ w'.cell? ⟨W.heap.size, 1, none⟩ = some (.int .i64 b.1.2) ∧ w'.cell? ⟨W.heap.size, 2, none⟩ = some (.int .i64 b.2.1) ∧ w'.cell? ⟨W.heap.size, 3, none⟩ = some (.int .i64 b.2.2) ∧ (∀ j, w'.frozen? ⟨W.heap.size, j, none⟩ = false) ∧ w'.cell? ⟨W.heap.size + 1, 0, none⟩ = some (.bool y.1.1.1) ∧ w'.cell? ⟨W.heap.size + 1, 1, none⟩ = some (.slice s1a1 s1n1 s1c1) ∧ w'.cell? ⟨W.heap.size + 1, 2, none⟩ = some (.slice s1a2 s1n2 s1c2) ∧ w'.cell? ⟨W.heap.size + 1, 3, none⟩ = some (.bool y.2.1.1) ∧ w'.cell? ⟨W.heap.size + 1, 4, none⟩ = some (.slice s1a4 s1n4 s1c4) ∧ w'.cell? ⟨W.heap.size + 1, 5, none⟩ = some (.slice s1a5 s1n5 s1c5) ∧ (∀ j, w'.frozen? ⟨W.heap.size + 1, j, none⟩ = false) := fun w' h => ⟨box_new (by simp) (More.un h) 0, box_new (by simp) (More.un h) 1, box_new (by simp) (More.un h) 2, box_new (by simp) (More.un h) 3, fun j => box_free (by simp) (More.un h) j, box_new (by simp) h 0, box_new (by simp) h 1, box_new (by simp) h 2, box_new (by simp) h 3, box_new (by simp) h 4, box_new (by simp) h 5, fun j => box_free (by simp) h j⟩
  go_enter Try.func9, Try.ntmps9
  go_wp2_with fail
  refine (laws_szPoint _ y _ _ (Ty.at_more HV1.out (Turns.more (by repeat (first | (with_reducible exact Turns.refl _ _) | (with_reducible apply Turns.drew) | (with_reducible apply Turns.drewN) | (with_reducible apply Turns.alloc) | (with_reducible refine Turns.via (by assumption) ?_))))) (by decide) (by decide)).mono ?_
  rintro e w1 ⟨rfl, b1⟩
  have HXa1 : Hid (More (((W.alloc (.cells #[.int .i64 b.1.1, .int .i64 b.1.2, .int .i64 b.2.1, .int .i64 b.2.2] 80)).alloc (.cells #[.bool y.1.1.1, .slice s1a1 s1n1 s1c1, .slice s1a2 s1n2 s1c2, .bool y.2.1.1, .slice s1a4 s1n4 s1c4, .slice s1a5 s1n5 s1c5] 82))) w1) := Lib.hid (Turns.more (by repeat (first | (with_reducible exact Turns.refl _ _) | (with_reducible apply Turns.drew) | (with_reducible apply Turns.drewN) | (with_reducible apply Turns.alloc) | (with_reducible refine Turns.via (by assumption) ?_))))
  have HBw1 := HB _ HXa1.out
  have hsHB1_0 : W.heap.size < w1.heap.size := by have := (HXa1.out).size; simp at this; omega
  have hsHB1_1 : W.heap.size + 1 < w1.heap.size := by have := (HXa1.out).size; simp at this; omega
  rw [szI_pos (by have := Hn1.out; omega)]
  have z1 : 0 ≤ (1048576 : Int) - (wPoint y : Nat) := by have := Hn1.out; omega
  go_wp2_with fail
  have RHB := fun (w' : World) (h : More w1 w') => HB w' (More.trans HXa1.out h)
  clear HBw1
  go_region_held3 (fun w' => More w1 w') (first | exact More.refl _ | exact (Turns.more (by repeat (first | (with_reducible exact Turns.refl _ _) | (with_reducible apply Turns.drew) | (with_reducible apply Turns.drewN) | (with_reducible apply Turns.alloc) | (with_reducible refine Turns.via (by assumption) ?_))))) (first | (go_at_call 51; (with_reducible refine (laws_toBox _ b _ (Ty.at_more HV0.out (Turns.more (by repeat (first | (with_reducible exact Turns.refl _ _) | (with_reducible apply Turns.drew) | (with_reducible apply Turns.drewN) | (with_reducible apply Turns.alloc) | (with_reducible refine Turns.via (by assumption) ?_)))))).mono ?_); rintro e w2 ⟨rfl, b2⟩) | (go_at_call 52; (with_reducible refine (laws_toPoint _ y _ (Ty.at_more HV1.out (Turns.more (by repeat (first | (with_reducible exact Turns.refl _ _) | (with_reducible apply Turns.drew) | (with_reducible apply Turns.drewN) | (with_reducible apply Turns.alloc) | (with_reducible refine Turns.via (by assumption) ?_))))) Hs1.out).mono ?_); rintro e w3 ⟨c1, rfl, b3, Fc1⟩; obtain ⟨c1za1, c1zn1, c1zc1, c1za2, c1zn2, c1zc2, c1za4, c1zn4, c1zc4, c1za5, c1zn5, c1zc5, rfl⟩ := sh_Point (Ty.fresh_at Fc1)) | (go_at_call 50; (with_reducible refine (spec_InBox b.1.1 b.1.2 b.2.1 b.2.2 _ y.1 y.2 _ (box_in HV0.out).1.1 (box_in HV0.out).1.2 (box_in HV0.out).2.1 (box_in HV0.out).2.2 (Ty.at_more (Ty.fresh_at Fc1) (Turns.more (by ((repeat (first | (with_reducible apply Turns.drew) | (with_reducible apply Turns.drewN) | (with_reducible apply Turns.alloc))); exact Turns.refl _ _)))) Hs1.out).mono ?_); rintro e w4 ⟨rfl, b4⟩))
  clear RHB
  have HXa4 : Hid (More (((W.alloc (.cells #[.int .i64 b.1.1, .int .i64 b.1.2, .int .i64 b.2.1, .int .i64 b.2.2] 80)).alloc (.cells #[.bool y.1.1.1, .slice s1a1 s1n1 s1c1, .slice s1a2 s1n2 s1c2, .bool y.2.1.1, .slice s1a4 s1n4 s1c4, .slice s1a5 s1n5 s1c5] 82))) w4) := Lib.hid (Turns.more (by repeat (first | (with_reducible exact Turns.refl _ _) | (with_reducible apply Turns.drew) | (with_reducible apply Turns.drewN) | (with_reducible apply Turns.alloc) | (with_reducible refine Turns.via (by assumption) ?_))))
  have HBw4 := HB _ HXa4.out
  have hsHB4_0 : W.heap.size < w4.heap.size := by have := (HXa4.out).size; simp at this; omega
  have hsHB4_1 : W.heap.size + 1 < w4.heap.size := by have := (HXa4.out).size; simp at this; omega
  try clear HBw3
  go_wp2_with fail
  refine (laws_toPoint _ y _ (Ty.at_more HV1.out (Turns.more (by repeat (first | (with_reducible exact Turns.refl _ _) | (with_reducible apply Turns.drew) | (with_reducible apply Turns.drewN) | (with_reducible apply Turns.alloc) | (with_reducible refine Turns.via (by assumption) ?_))))) Hs1.out).mono ?_
  rintro e w5 ⟨x1, rfl, b5, Fx1⟩
  have HXa5 : Hid (More (((W.alloc (.cells #[.int .i64 b.1.1, .int .i64 b.1.2, .int .i64 b.2.1, .int .i64 b.2.2] 80)).alloc (.cells #[.bool y.1.1.1, .slice s1a1 s1n1 s1c1, .slice s1a2 s1n2 s1c2, .bool y.2.1.1, .slice s1a4 s1n4 s1c4, .slice s1a5 s1n5 s1c5] 82))) w5) := Lib.hid (Turns.more (by repeat (first | (with_reducible exact Turns.refl _ _) | (with_reducible apply Turns.drew) | (with_reducible apply Turns.drewN) | (with_reducible apply Turns.alloc) | (with_reducible refine Turns.via (by assumption) ?_))))
  have HBw5 := HB _ HXa5.out
  have hsHB5_0 : W.heap.size < w5.heap.size := by have := (HXa5.out).size; simp at this; omega
  have hsHB5_1 : W.heap.size + 1 < w5.heap.size := by have := (HXa5.out).size; simp at this; omega
  try clear HBw4
  obtain ⟨x1za1, x1zn1, x1zc1, x1za2, x1zn2, x1zc2, x1za4, x1zn4, x1zc4, x1za5, x1zn5, x1zc5, rfl⟩ := sh_Point (Ty.fresh_at Fx1)
  have HBx1 : ∀ w', More (w5.alloc (.cells #[.bool y.1.1.1, .slice x1za1 x1zn1 x1zc1, .slice x1za2 x1zn2 x1zc2, .bool y.2.1.1, .slice x1za4 x1zn4 x1zc4, .slice x1za5 x1zn5 x1zc5] 89)) w' → w'.cell? ⟨w5.heap.size, 0, none⟩ = some (.bool y.1.1.1) ∧ w'.cell? ⟨w5.heap.size, 1, none⟩ = some (.slice x1za1 x1zn1 x1zc1) ∧ w'.cell? ⟨w5.heap.size, 2, none⟩ = some (.slice x1za2 x1zn2 x1zc2) ∧ w'.cell? ⟨w5.heap.size, 3, none⟩ = some (.bool y.2.1.1) ∧ w'.cell? ⟨w5.heap.size, 4, none⟩ = some (.slice x1za4 x1zn4 x1zc4) ∧ w'.cell? ⟨w5.heap.size, 5, none⟩ = some (.slice x1za5 x1zn5 x1zc5) := fun w' h => ⟨box_new rfl h 0, box_new rfl h 1, box_new rfl h 2, box_new rfl h 3, box_new rfl h 4, box_new rfl h 5⟩
  go_wp2_with fail
  have RHB := fun (w' : World) (h : More (w5.alloc (.cells #[.bool y.1.1.1, .slice x1za1 x1zn1 x1zc1, .slice x1za2 x1zn2 x1zc2, .bool y.2.1.1, .slice x1za4 x1zn4 x1zc4, .slice x1za5 x1zn5 x1zc5] 89)) w') => HB w' (More.trans HXa5.out (More.un h))
  clear HBw5
  have RHBx1 := fun (w' : World) (h : More (w5.alloc (.cells #[.bool y.1.1.1, .slice x1za1 x1zn1 x1zc1, .slice x1za2 x1zn2 x1zc2, .bool y.2.1.1, .slice x1za4 x1zn4 x1zc4, .slice x1za5 x1zn5 x1zc5] 89)) w') => HBx1 w' h
  go_region_held3 (fun w' => More (w5.alloc (.cells #[.bool y.1.1.1, .slice x1za1 x1zn1 x1zc1, .slice x1za2 x1zn2 x1zc2, .bool y.2.1.1, .slice x1za4 x1zn4 x1zc4, .slice x1za5 x1zn5 x1zc5] 89)) w') (first | exact More.refl _ | exact (Turns.more (by repeat (first | (with_reducible exact Turns.refl _ _) | (with_reducible apply Turns.drew) | (with_reducible apply Turns.drewN) | (with_reducible apply Turns.alloc) | (with_reducible refine Turns.via (by assumption) ?_))))) (first | (go_at_call 51; (with_reducible refine (laws_toBox _ b _ (Ty.at_more HV0.out (Turns.more (by repeat (first | (with_reducible exact Turns.refl _ _) | (with_reducible apply Turns.drew) | (with_reducible apply Turns.drewN) | (with_reducible apply Turns.alloc) | (with_reducible refine Turns.via (by assumption) ?_)))))).mono ?_); rintro e w6 ⟨rfl, b6⟩) | (go_at_call 53; (with_reducible refine (impl_InBox b.1.1 b.1.2 b.2.1 b.2.2 _ y.1 y.2 _ (box_in HV0.out).1.1 (box_in HV0.out).1.2 (box_in HV0.out).2.1 (box_in HV0.out).2.2 (Ty.at_more (Ty.fresh_at Fx1) (Turns.more (by repeat (first | (with_reducible exact Turns.refl _ _) | (with_reducible apply Turns.drew) | (with_reducible apply Turns.drewN) | (with_reducible apply Turns.alloc) | (with_reducible refine Turns.via (by assumption) ?_))))) Hs1.out).mono ?_); rintro e w7 ⟨rfl, b7⟩))
  clear RHB
  clear RHBx1
  have HXa7 : Hid (More (((W.alloc (.cells #[.int .i64 b.1.1, .int .i64 b.1.2, .int .i64 b.2.1, .int .i64 b.2.2] 80)).alloc (.cells #[.bool y.1.1.1, .slice s1a1 s1n1 s1c1, .slice s1a2 s1n2 s1c2, .bool y.2.1.1, .slice s1a4 s1n4 s1c4, .slice s1a5 s1n5 s1c5] 82))) w7) := Lib.hid (Turns.more (by repeat (first | (with_reducible exact Turns.refl _ _) | (with_reducible apply Turns.drew) | (with_reducible apply Turns.drewN) | (with_reducible apply Turns.alloc) | (with_reducible refine Turns.via (by assumption) ?_))))
  have HBw7 := HB _ HXa7.out
  have hsHB7_0 : W.heap.size < w7.heap.size := by have := (HXa7.out).size; simp at this; omega
  have hsHB7_1 : W.heap.size + 1 < w7.heap.size := by have := (HXa7.out).size; simp at this; omega
  try clear HBw6
  have HXx1_7 : Hid (More (w5.alloc (.cells #[.bool y.1.1.1, .slice x1za1 x1zn1 x1zc1, .slice x1za2 x1zn2 x1zc2, .bool y.2.1.1, .slice x1za4 x1zn4 x1zc4, .slice x1za5 x1zn5 x1zc5] 89)) w7) := Lib.hid (Turns.more (by repeat (first | (with_reducible exact Turns.refl _ _) | (with_reducible apply Turns.drew) | (with_reducible apply Turns.drewN) | (with_reducible apply Turns.alloc) | (with_reducible refine Turns.via (by assumption) ?_))))
  have HBx1w7 := HBx1 _ HXx1_7.out
  have hsHBx17_0 : w5.heap.size < w7.heap.size := by have := (HXx1_7.out).size; simp at this; omega
  try clear HBx1w6
  go_wp2_with fail
  have RHB := fun (w' : World) (h : More w7 w') => HB w' (More.trans HXa7.out h)
  clear HBw7
  have RHBx1 := fun (w' : World) (h : More w7 w') => HBx1 w' (More.trans HXx1_7.out h)
  clear HBx1w7
  go_region_held3 (fun w' => More w7 w') (first | exact More.refl _ | exact (Turns.more (by repeat (first | (with_reducible exact Turns.refl _ _) | (with_reducible apply Turns.drew) | (with_reducible apply Turns.drewN) | (with_reducible apply Turns.alloc) | (with_reducible refine Turns.via (by assumption) ?_))))) (first | (go_at_call 52; (with_reducible refine (laws_toPoint _ y _ (Ty.at_more HV1.out (Turns.more (by repeat (first | (with_reducible exact Turns.refl _ _) | (with_reducible apply Turns.drew) | (with_reducible apply Turns.drewN) | (with_reducible apply Turns.alloc) | (with_reducible refine Turns.via (by assumption) ?_))))) Hs1.out).mono ?_); rintro e w8 ⟨t1, rfl, b8, Ft1⟩; obtain ⟨t1za1, t1zn1, t1zc1, t1za2, t1zn2, t1zc2, t1za4, t1zn4, t1zc4, t1za5, t1zn5, t1zc5, rfl⟩ := sh_Point (Ty.fresh_at Ft1)) | (go_at_call 54; (with_reducible refine (laws_eqPoint _ _ y _ (Ty.at_more (Ty.fresh_at Fx1) (Turns.more (by repeat (first | (with_reducible exact Turns.refl _ _) | (with_reducible apply Turns.drew) | (with_reducible apply Turns.drewN) | (with_reducible apply Turns.alloc) | (with_reducible refine Turns.via (by assumption) ?_))))) (Ty.at_more (Ty.fresh_at Ft1) (Turns.more (by ((repeat (first | (with_reducible apply Turns.drew) | (with_reducible apply Turns.drewN) | (with_reducible apply Turns.alloc))); exact Turns.refl _ _)))) Hs1.out).mono ?_); rintro e w9 ⟨rfl, b9⟩))
  clear RHB
  clear RHBx1
  have HXa9 : Hid (More (((W.alloc (.cells #[.int .i64 b.1.1, .int .i64 b.1.2, .int .i64 b.2.1, .int .i64 b.2.2] 80)).alloc (.cells #[.bool y.1.1.1, .slice s1a1 s1n1 s1c1, .slice s1a2 s1n2 s1c2, .bool y.2.1.1, .slice s1a4 s1n4 s1c4, .slice s1a5 s1n5 s1c5] 82))) w9) := Lib.hid (Turns.more (by repeat (first | (with_reducible exact Turns.refl _ _) | (with_reducible apply Turns.drew) | (with_reducible apply Turns.drewN) | (with_reducible apply Turns.alloc) | (with_reducible refine Turns.via (by assumption) ?_))))
  have HBw9 := HB _ HXa9.out
  have hsHB9_0 : W.heap.size < w9.heap.size := by have := (HXa9.out).size; simp at this; omega
  have hsHB9_1 : W.heap.size + 1 < w9.heap.size := by have := (HXa9.out).size; simp at this; omega
  try clear HBw8
  have HXx1_9 : Hid (More (w5.alloc (.cells #[.bool y.1.1.1, .slice x1za1 x1zn1 x1zc1, .slice x1za2 x1zn2 x1zc2, .bool y.2.1.1, .slice x1za4 x1zn4 x1zc4, .slice x1za5 x1zn5 x1zc5] 89)) w9) := Lib.hid (Turns.more (by repeat (first | (with_reducible exact Turns.refl _ _) | (with_reducible apply Turns.drew) | (with_reducible apply Turns.drewN) | (with_reducible apply Turns.alloc) | (with_reducible refine Turns.via (by assumption) ?_))))
  have HBx1w9 := HBx1 _ HXx1_9.out
  have hsHBx19_0 : w5.heap.size < w9.heap.size := by have := (HXx1_9.out).size; simp at this; omega
  try clear HBx1w8
  go_wp2_with fail
  go_ret
  exact ⟨rfl, (Turns.more (by repeat (first | (with_reducible exact Turns.refl _ _) | (with_reducible apply Turns.drew) | (with_reducible apply Turns.drewN) | (with_reducible apply Turns.alloc) | (with_reducible refine Turns.via (by assumption) ?_))))⟩
end Go.Proofs.Ytkhcblheekfdmaa
