/- Equality of fractions. -/
import Derived.Test.YtnndjbomfcacfaaEqFv
import Derived.Deep.RegionHeld3
import Derived.Deep.QuietTactic
import Derived.BigQuiet
import Derived.Laws.StructEq
namespace Go.Proofs.Ytnndjbomfcacfaa
open Go.RowKit
set_option maxHeartbeats 3200000 in
theorem impl_RatEqual (cs ds : List Value) (x y : QR) (w : World) (hv : tRat.at w cs x) (hv' : tRat.at w ds y) (hw : wRat x ≤ 1048576) (hw' : wRat y ≤ 1048576) :
    Calls Try.prog 47 #[.agg cs.toArray, .agg ds.toArray] w fun e w' => e = .returned (.bool (decide (x = y))) ∧ More w w' := by
  obtain ⟨x_k0, x_d0, rfl, x_f0, x_e0⟩ := at_prod hv
  have x_f1 := x_e0
  obtain ⟨x_0k0, x_0d0, rfl, x_0f0, x_0e0⟩ := at_prod x_f0
  have x_0f1 := x_0e0
  obtain rfl := sh_bool x_0f0
  obtain ⟨x_0a1, x_0n1, x_0c1, rfl⟩ := sh_slice x_0f1
  obtain ⟨x_a1, x_n1, x_c1, rfl⟩ := sh_slice x_f1
  obtain ⟨y_k0, y_d0, rfl, y_f0, y_e0⟩ := at_prod hv'
  have y_f1 := y_e0
  obtain ⟨y_0k0, y_0d0, rfl, y_0f0, y_0e0⟩ := at_prod y_f0
  have y_0f1 := y_0e0
  obtain rfl := sh_bool y_0f0
  obtain ⟨y_0a1, y_0n1, y_0c1, rfl⟩ := sh_slice y_0f1
  obtain ⟨y_a1, y_n1, y_c1, rfl⟩ := sh_slice y_f1
  have FX1 := Lib.hid x_0f1; have FY1 := Lib.hid y_0f1
  have HWX1 : Hid (x.1.2.length ≤ 1048576) := Lib.hid (show wIntS x.1.2 ≤ 1048576 by have := hw; unfold wRat wBigInt at this; omega)
  have HWY1 : Hid (y.1.2.length ≤ 1048576) := Lib.hid (show wIntS y.1.2 ≤ 1048576 by have := hw'; unfold wRat wBigInt at this; omega)
  have FX2 := Lib.hid x_f1; have FY2 := Lib.hid y_f1
  have HWX2 : Hid (x.2.length ≤ 1048576) := Lib.hid (show wIntS x.2 ≤ 1048576 by have := hw; unfold wRat at this; omega)
  have HWY2 : Hid (y.2.length ≤ 1048576) := Lib.hid (show wIntS y.2 ≤ 1048576 by have := hw'; unfold wRat at this; omega)
  clear hw hw'
  try clear x_0e0
  try clear x_0f0
  try clear x_0f1
  try clear x_e0
  try clear x_f0
  try clear x_f1
  try clear y_0e0
  try clear y_0f0
  try clear y_0f1
  try clear y_e0
  try clear y_f0
  try clear y_f1
  try clear hv
  try clear hv'
  show Calls Try.prog 47 #[.agg #[.bool x.1.1, .slice x_0a1 x_0n1 x_0c1, .slice x_a1 x_n1 x_c1], .agg #[.bool y.1.1, .slice y_0a1 y_0n1 y_0c1, .slice y_a1 y_n1 y_c1]] w _
  rcases Bool.eq_false_or_eq_true (x.1.1 == y.1.1) with a0 | a0
  rotate_left
  · have A0 := Lib.hid a0
    have HX : More ((w.alloc (.cells #[.bool x.1.1, .slice x_0a1 x_0n1 x_0c1, .slice x_a1 x_n1 x_c1] 55)).alloc (.cells #[.bool y.1.1, .slice y_0a1 y_0n1 y_0c1, .slice y_a1 y_n1 y_c1] 55)) ((w.alloc (.cells #[.bool x.1.1, .slice x_0a1 x_0n1 x_0c1, .slice x_a1 x_n1 x_c1] 55)).alloc (.cells #[.bool y.1.1, .slice y_0a1 y_0n1 y_0c1, .slice y_a1 y_n1 y_c1] 55)) := More.refl _
    have HB : ∀ w', More ((w.alloc (.cells #[.bool x.1.1, .slice x_0a1 x_0n1 x_0c1, .slice x_a1 x_n1 x_c1] 55)).alloc (.cells #[.bool y.1.1, .slice y_0a1 y_0n1 y_0c1, .slice y_a1 y_n1 y_c1] 55)) w' → w'.cell? ⟨w.heap.size, 0, none⟩ = some (.bool x.1.1) ∧ w'.cell? ⟨w.heap.size, 1, none⟩ = some (.slice x_0a1 x_0n1 x_0c1) ∧ w'.cell? ⟨w.heap.size, 2, none⟩ = some (.slice x_a1 x_n1 x_c1) ∧ (∀ j, w'.frozen? ⟨w.heap.size, j, none⟩ = false) ∧ w'.cell? ⟨w.heap.size + 1, 0, none⟩ = some (.bool y.1.1) ∧ w'.cell? ⟨w.heap.size + 1, 1, none⟩ = some (.slice y_0a1 y_0n1 y_0c1) ∧ w'.cell? ⟨w.heap.size + 1, 2, none⟩ = some (.slice y_a1 y_n1 y_c1) ∧ (∀ j, w'.frozen? ⟨w.heap.size + 1, j, none⟩ = false) := fun w' h => ⟨box_new (by simp) (More.un h) 0, box_new (by simp) (More.un h) 1, box_new (by simp) (More.un h) 2, fun j => box_free (by simp) (More.un h) j, box_new (by simp) h 0, box_new (by simp) h 1, box_new (by simp) h 2, fun j => box_free (by simp) h j⟩
    go_enter Try.func47, Try.ntmps47
    go_wp2_with (first | (go_at_call 65; (with_reducible refine (slicesEqual_IntS _ _ x.1.2 y.1.2 _ (Ty.at_more FX1.out mC) (Ty.at_more FY1.out mC) HWX1.out HWY1.out).mono ?_); rintro e w1 ⟨rfl, hb1⟩; have HX : More ((w.alloc (.cells #[.bool x.1.1, .slice x_0a1 x_0n1 x_0c1, .slice x_a1 x_n1 x_c1] 55)).alloc (.cells #[.bool y.1.1, .slice y_0a1 y_0n1 y_0c1, .slice y_a1 y_n1 y_c1] 55)) _ := More.trans (by assumption) hb1; have HBw := HB _ HX) | (go_at_call 65; (with_reducible refine (slicesEqual_IntS _ _ x.2 y.2 _ (Ty.at_more FX2.out mC) (Ty.at_more FY2.out mC) HWX2.out HWY2.out).mono ?_); rintro e w1 ⟨rfl, hb1⟩; have HX : More ((w.alloc (.cells #[.bool x.1.1, .slice x_0a1 x_0n1 x_0c1, .slice x_a1 x_n1 x_c1] 55)).alloc (.cells #[.bool y.1.1, .slice y_0a1 y_0n1 y_0c1, .slice y_a1 y_n1 y_c1] 55)) _ := More.trans (by assumption) hb1; have HBw := HB _ HX))
    go_ret
    exact ⟨ret_bool (decide_eq_false (fun e => by have h := A0.out; rw [e] at h; simp at h)).symm, mC⟩
  rcases Bool.eq_false_or_eq_true (decide (x.1.2 = y.1.2)) with a1 | a1
  rotate_left
  · have A1 := Lib.hid a1
    have HX : More ((w.alloc (.cells #[.bool x.1.1, .slice x_0a1 x_0n1 x_0c1, .slice x_a1 x_n1 x_c1] 55)).alloc (.cells #[.bool y.1.1, .slice y_0a1 y_0n1 y_0c1, .slice y_a1 y_n1 y_c1] 55)) ((w.alloc (.cells #[.bool x.1.1, .slice x_0a1 x_0n1 x_0c1, .slice x_a1 x_n1 x_c1] 55)).alloc (.cells #[.bool y.1.1, .slice y_0a1 y_0n1 y_0c1, .slice y_a1 y_n1 y_c1] 55)) := More.refl _
    have HB : ∀ w', More ((w.alloc (.cells #[.bool x.1.1, .slice x_0a1 x_0n1 x_0c1, .slice x_a1 x_n1 x_c1] 55)).alloc (.cells #[.bool y.1.1, .slice y_0a1 y_0n1 y_0c1, .slice y_a1 y_n1 y_c1] 55)) w' → w'.cell? ⟨w.heap.size, 0, none⟩ = some (.bool x.1.1) ∧ w'.cell? ⟨w.heap.size, 1, none⟩ = some (.slice x_0a1 x_0n1 x_0c1) ∧ w'.cell? ⟨w.heap.size, 2, none⟩ = some (.slice x_a1 x_n1 x_c1) ∧ (∀ j, w'.frozen? ⟨w.heap.size, j, none⟩ = false) ∧ w'.cell? ⟨w.heap.size + 1, 0, none⟩ = some (.bool y.1.1) ∧ w'.cell? ⟨w.heap.size + 1, 1, none⟩ = some (.slice y_0a1 y_0n1 y_0c1) ∧ w'.cell? ⟨w.heap.size + 1, 2, none⟩ = some (.slice y_a1 y_n1 y_c1) ∧ (∀ j, w'.frozen? ⟨w.heap.size + 1, j, none⟩ = false) := fun w' h => ⟨box_new (by simp) (More.un h) 0, box_new (by simp) (More.un h) 1, box_new (by simp) (More.un h) 2, fun j => box_free (by simp) (More.un h) j, box_new (by simp) h 0, box_new (by simp) h 1, box_new (by simp) h 2, fun j => box_free (by simp) h j⟩
    go_enter Try.func47, Try.ntmps47
    go_wp2_with (first | (go_at_call 65; (with_reducible refine (slicesEqual_IntS _ _ x.1.2 y.1.2 _ (Ty.at_more FX1.out mC) (Ty.at_more FY1.out mC) HWX1.out HWY1.out).mono ?_); rintro e w1 ⟨rfl, hb1⟩; have HX : More ((w.alloc (.cells #[.bool x.1.1, .slice x_0a1 x_0n1 x_0c1, .slice x_a1 x_n1 x_c1] 55)).alloc (.cells #[.bool y.1.1, .slice y_0a1 y_0n1 y_0c1, .slice y_a1 y_n1 y_c1] 55)) _ := More.trans (by assumption) hb1; have HBw := HB _ HX) | (go_at_call 65; (with_reducible refine (slicesEqual_IntS _ _ x.2 y.2 _ (Ty.at_more FX2.out mC) (Ty.at_more FY2.out mC) HWX2.out HWY2.out).mono ?_); rintro e w1 ⟨rfl, hb1⟩; have HX : More ((w.alloc (.cells #[.bool x.1.1, .slice x_0a1 x_0n1 x_0c1, .slice x_a1 x_n1 x_c1] 55)).alloc (.cells #[.bool y.1.1, .slice y_0a1 y_0n1 y_0c1, .slice y_a1 y_n1 y_c1] 55)) _ := More.trans (by assumption) hb1; have HBw := HB _ HX))
    go_ret
    exact ⟨ret_bool (decide_eq_false (fun e => by have h := A1.out; rw [e] at h; simp at h)).symm, mC⟩
  rcases Bool.eq_false_or_eq_true (decide (x.2 = y.2)) with a2 | a2
  rotate_left
  · have A2 := Lib.hid a2
    have HX : More ((w.alloc (.cells #[.bool x.1.1, .slice x_0a1 x_0n1 x_0c1, .slice x_a1 x_n1 x_c1] 55)).alloc (.cells #[.bool y.1.1, .slice y_0a1 y_0n1 y_0c1, .slice y_a1 y_n1 y_c1] 55)) ((w.alloc (.cells #[.bool x.1.1, .slice x_0a1 x_0n1 x_0c1, .slice x_a1 x_n1 x_c1] 55)).alloc (.cells #[.bool y.1.1, .slice y_0a1 y_0n1 y_0c1, .slice y_a1 y_n1 y_c1] 55)) := More.refl _
    have HB : ∀ w', More ((w.alloc (.cells #[.bool x.1.1, .slice x_0a1 x_0n1 x_0c1, .slice x_a1 x_n1 x_c1] 55)).alloc (.cells #[.bool y.1.1, .slice y_0a1 y_0n1 y_0c1, .slice y_a1 y_n1 y_c1] 55)) w' → w'.cell? ⟨w.heap.size, 0, none⟩ = some (.bool x.1.1) ∧ w'.cell? ⟨w.heap.size, 1, none⟩ = some (.slice x_0a1 x_0n1 x_0c1) ∧ w'.cell? ⟨w.heap.size, 2, none⟩ = some (.slice x_a1 x_n1 x_c1) ∧ (∀ j, w'.frozen? ⟨w.heap.size, j, none⟩ = false) ∧ w'.cell? ⟨w.heap.size + 1, 0, none⟩ = some (.bool y.1.1) ∧ w'.cell? ⟨w.heap.size + 1, 1, none⟩ = some (.slice y_0a1 y_0n1 y_0c1) ∧ w'.cell? ⟨w.heap.size + 1, 2, none⟩ = some (.slice y_a1 y_n1 y_c1) ∧ (∀ j, w'.frozen? ⟨w.heap.size + 1, j, none⟩ = false) := fun w' h => ⟨box_new (by simp) (More.un h) 0, box_new (by simp) (More.un h) 1, box_new (by simp) (More.un h) 2, fun j => box_free (by simp) (More.un h) j, box_new (by simp) h 0, box_new (by simp) h 1, box_new (by simp) h 2, fun j => box_free (by simp) h j⟩
    go_enter Try.func47, Try.ntmps47
    go_wp2_with (first | (go_at_call 65; (with_reducible refine (slicesEqual_IntS _ _ x.1.2 y.1.2 _ (Ty.at_more FX1.out mC) (Ty.at_more FY1.out mC) HWX1.out HWY1.out).mono ?_); rintro e w1 ⟨rfl, hb1⟩; have HX : More ((w.alloc (.cells #[.bool x.1.1, .slice x_0a1 x_0n1 x_0c1, .slice x_a1 x_n1 x_c1] 55)).alloc (.cells #[.bool y.1.1, .slice y_0a1 y_0n1 y_0c1, .slice y_a1 y_n1 y_c1] 55)) _ := More.trans (by assumption) hb1; have HBw := HB _ HX) | (go_at_call 65; (with_reducible refine (slicesEqual_IntS _ _ x.2 y.2 _ (Ty.at_more FX2.out mC) (Ty.at_more FY2.out mC) HWX2.out HWY2.out).mono ?_); rintro e w1 ⟨rfl, hb1⟩; have HX : More ((w.alloc (.cells #[.bool x.1.1, .slice x_0a1 x_0n1 x_0c1, .slice x_a1 x_n1 x_c1] 55)).alloc (.cells #[.bool y.1.1, .slice y_0a1 y_0n1 y_0c1, .slice y_a1 y_n1 y_c1] 55)) _ := More.trans (by assumption) hb1; have HBw := HB _ HX))
    go_ret
    exact ⟨ret_bool (decide_eq_false (fun e => by have h := A2.out; rw [e] at h; simp at h)).symm, mC⟩
  have EQ : Hid (x = y) := Lib.hid (Prod.ext (Prod.ext (eq_of_beq a0) (of_decide_eq_true a1)) (of_decide_eq_true a2))
  have HX : More ((w.alloc (.cells #[.bool x.1.1, .slice x_0a1 x_0n1 x_0c1, .slice x_a1 x_n1 x_c1] 55)).alloc (.cells #[.bool y.1.1, .slice y_0a1 y_0n1 y_0c1, .slice y_a1 y_n1 y_c1] 55)) ((w.alloc (.cells #[.bool x.1.1, .slice x_0a1 x_0n1 x_0c1, .slice x_a1 x_n1 x_c1] 55)).alloc (.cells #[.bool y.1.1, .slice y_0a1 y_0n1 y_0c1, .slice y_a1 y_n1 y_c1] 55)) := More.refl _
  have HB : ∀ w', More ((w.alloc (.cells #[.bool x.1.1, .slice x_0a1 x_0n1 x_0c1, .slice x_a1 x_n1 x_c1] 55)).alloc (.cells #[.bool y.1.1, .slice y_0a1 y_0n1 y_0c1, .slice y_a1 y_n1 y_c1] 55)) w' → w'.cell? ⟨w.heap.size, 0, none⟩ = some (.bool x.1.1) ∧ w'.cell? ⟨w.heap.size, 1, none⟩ = some (.slice x_0a1 x_0n1 x_0c1) ∧ w'.cell? ⟨w.heap.size, 2, none⟩ = some (.slice x_a1 x_n1 x_c1) ∧ (∀ j, w'.frozen? ⟨w.heap.size, j, none⟩ = false) ∧ w'.cell? ⟨w.heap.size + 1, 0, none⟩ = some (.bool y.1.1) ∧ w'.cell? ⟨w.heap.size + 1, 1, none⟩ = some (.slice y_0a1 y_0n1 y_0c1) ∧ w'.cell? ⟨w.heap.size + 1, 2, none⟩ = some (.slice y_a1 y_n1 y_c1) ∧ (∀ j, w'.frozen? ⟨w.heap.size + 1, j, none⟩ = false) := fun w' h => ⟨box_new (by simp) (More.un h) 0, box_new (by simp) (More.un h) 1, box_new (by simp) (More.un h) 2, fun j => box_free (by simp) (More.un h) j, box_new (by simp) h 0, box_new (by simp) h 1, box_new (by simp) h 2, fun j => box_free (by simp) h j⟩
  go_enter Try.func47, Try.ntmps47
  go_wp2_with (first | (go_at_call 65; (with_reducible refine (slicesEqual_IntS _ _ x.1.2 y.1.2 _ (Ty.at_more FX1.out mC) (Ty.at_more FY1.out mC) HWX1.out HWY1.out).mono ?_); rintro e w1 ⟨rfl, hb1⟩; have HX : More ((w.alloc (.cells #[.bool x.1.1, .slice x_0a1 x_0n1 x_0c1, .slice x_a1 x_n1 x_c1] 55)).alloc (.cells #[.bool y.1.1, .slice y_0a1 y_0n1 y_0c1, .slice y_a1 y_n1 y_c1] 55)) _ := More.trans (by assumption) hb1; have HBw := HB _ HX) | (go_at_call 65; (with_reducible refine (slicesEqual_IntS _ _ x.2 y.2 _ (Ty.at_more FX2.out mC) (Ty.at_more FY2.out mC) HWX2.out HWY2.out).mono ?_); rintro e w1 ⟨rfl, hb1⟩; have HX : More ((w.alloc (.cells #[.bool x.1.1, .slice x_0a1 x_0n1 x_0c1, .slice x_a1 x_n1 x_c1] 55)).alloc (.cells #[.bool y.1.1, .slice y_0a1 y_0n1 y_0c1, .slice y_a1 y_n1 y_c1] 55)) _ := More.trans (by assumption) hb1; have HBw := HB _ HX))
  go_ret
  exact ⟨ret_bool (decide_eq_true EQ.out).symm, mC⟩
set_option maxHeartbeats 3200000 in
theorem spec_RatEqual (cs ds : List Value) (x y : QR) (w : World) (hv : tRat.at w cs x) (hv' : tRat.at w ds y) (hw : wRat x ≤ 1048576) (hw' : wRat y ≤ 1048576) :
    Calls Try.prog 43 #[.agg cs.toArray, .agg ds.toArray] w fun e w' => e = .returned (.bool (decide (x = y))) ∧ More w w' := by
  obtain ⟨x_k0, x_d0, rfl, x_f0, x_e0⟩ := at_prod hv
  have x_f1 := x_e0
  obtain ⟨x_0k0, x_0d0, rfl, x_0f0, x_0e0⟩ := at_prod x_f0
  have x_0f1 := x_0e0
  obtain rfl := sh_bool x_0f0
  obtain ⟨x_0a1, x_0n1, x_0c1, rfl⟩ := sh_slice x_0f1
  obtain ⟨x_a1, x_n1, x_c1, rfl⟩ := sh_slice x_f1
  obtain ⟨y_k0, y_d0, rfl, y_f0, y_e0⟩ := at_prod hv'
  have y_f1 := y_e0
  obtain ⟨y_0k0, y_0d0, rfl, y_0f0, y_0e0⟩ := at_prod y_f0
  have y_0f1 := y_0e0
  obtain rfl := sh_bool y_0f0
  obtain ⟨y_0a1, y_0n1, y_0c1, rfl⟩ := sh_slice y_0f1
  obtain ⟨y_a1, y_n1, y_c1, rfl⟩ := sh_slice y_f1
  have FX1 := Lib.hid x_0f1; have FY1 := Lib.hid y_0f1
  have HWX1 : Hid (x.1.2.length ≤ 1048576) := Lib.hid (show wIntS x.1.2 ≤ 1048576 by have := hw; unfold wRat wBigInt at this; omega)
  have HWY1 : Hid (y.1.2.length ≤ 1048576) := Lib.hid (show wIntS y.1.2 ≤ 1048576 by have := hw'; unfold wRat wBigInt at this; omega)
  have FX2 := Lib.hid x_f1; have FY2 := Lib.hid y_f1
  have HWX2 : Hid (x.2.length ≤ 1048576) := Lib.hid (show wIntS x.2 ≤ 1048576 by have := hw; unfold wRat at this; omega)
  have HWY2 : Hid (y.2.length ≤ 1048576) := Lib.hid (show wIntS y.2 ≤ 1048576 by have := hw'; unfold wRat at this; omega)
  clear hw hw'
  try clear x_0e0
  try clear x_0f0
  try clear x_0f1
  try clear x_e0
  try clear x_f0
  try clear x_f1
  try clear y_0e0
  try clear y_0f0
  try clear y_0f1
  try clear y_e0
  try clear y_f0
  try clear y_f1
  try clear hv
  try clear hv'
  show Calls Try.prog 43 #[.agg #[.bool x.1.1, .slice x_0a1 x_0n1 x_0c1, .slice x_a1 x_n1 x_c1], .agg #[.bool y.1.1, .slice y_0a1 y_0n1 y_0c1, .slice y_a1 y_n1 y_c1]] w _
  rcases Bool.eq_false_or_eq_true (x.1.1 == y.1.1) with a0 | a0
  rotate_left
  · have A0 := Lib.hid a0
    have HX : More ((w.alloc (.cells #[.bool x.1.1, .slice x_0a1 x_0n1 x_0c1, .slice x_a1 x_n1 x_c1] 55)).alloc (.cells #[.bool y.1.1, .slice y_0a1 y_0n1 y_0c1, .slice y_a1 y_n1 y_c1] 55)) ((w.alloc (.cells #[.bool x.1.1, .slice x_0a1 x_0n1 x_0c1, .slice x_a1 x_n1 x_c1] 55)).alloc (.cells #[.bool y.1.1, .slice y_0a1 y_0n1 y_0c1, .slice y_a1 y_n1 y_c1] 55)) := More.refl _
    have HB : ∀ w', More ((w.alloc (.cells #[.bool x.1.1, .slice x_0a1 x_0n1 x_0c1, .slice x_a1 x_n1 x_c1] 55)).alloc (.cells #[.bool y.1.1, .slice y_0a1 y_0n1 y_0c1, .slice y_a1 y_n1 y_c1] 55)) w' → w'.cell? ⟨w.heap.size, 0, none⟩ = some (.bool x.1.1) ∧ w'.cell? ⟨w.heap.size, 1, none⟩ = some (.slice x_0a1 x_0n1 x_0c1) ∧ w'.cell? ⟨w.heap.size, 2, none⟩ = some (.slice x_a1 x_n1 x_c1) ∧ (∀ j, w'.frozen? ⟨w.heap.size, j, none⟩ = false) ∧ w'.cell? ⟨w.heap.size + 1, 0, none⟩ = some (.bool y.1.1) ∧ w'.cell? ⟨w.heap.size + 1, 1, none⟩ = some (.slice y_0a1 y_0n1 y_0c1) ∧ w'.cell? ⟨w.heap.size + 1, 2, none⟩ = some (.slice y_a1 y_n1 y_c1) ∧ (∀ j, w'.frozen? ⟨w.heap.size + 1, j, none⟩ = false) := fun w' h => ⟨box_new (by simp) (More.un h) 0, box_new (by simp) (More.un h) 1, box_new (by simp) (More.un h) 2, fun j => box_free (by simp) (More.un h) j, box_new (by simp) h 0, box_new (by simp) h 1, box_new (by simp) h 2, fun j => box_free (by simp) h j⟩
    go_enter Try.func43, Try.ntmps43
    go_wp2_with (first | (go_at_call 64; (with_reducible refine (spec_l04List _ _ x.1.2 y.1.2 _ (Ty.at_more FX1.out mC) (Ty.at_more FY1.out mC) HWX1.out HWY1.out).mono ?_); rintro e w1 ⟨rfl, hb1⟩; have HX : More ((w.alloc (.cells #[.bool x.1.1, .slice x_0a1 x_0n1 x_0c1, .slice x_a1 x_n1 x_c1] 55)).alloc (.cells #[.bool y.1.1, .slice y_0a1 y_0n1 y_0c1, .slice y_a1 y_n1 y_c1] 55)) _ := More.trans (by assumption) hb1; have HBw := HB _ HX) | (go_at_call 64; (with_reducible refine (spec_l04List _ _ x.2 y.2 _ (Ty.at_more FX2.out mC) (Ty.at_more FY2.out mC) HWX2.out HWY2.out).mono ?_); rintro e w1 ⟨rfl, hb1⟩; have HX : More ((w.alloc (.cells #[.bool x.1.1, .slice x_0a1 x_0n1 x_0c1, .slice x_a1 x_n1 x_c1] 55)).alloc (.cells #[.bool y.1.1, .slice y_0a1 y_0n1 y_0c1, .slice y_a1 y_n1 y_c1] 55)) _ := More.trans (by assumption) hb1; have HBw := HB _ HX))
    go_ret
    exact ⟨ret_bool (decide_eq_false (fun e => by have h := A0.out; rw [e] at h; simp at h)).symm, mC⟩
  rcases Bool.eq_false_or_eq_true (decide (x.1.2 = y.1.2)) with a1 | a1
  rotate_left
  · have A1 := Lib.hid a1
    have HX : More ((w.alloc (.cells #[.bool x.1.1, .slice x_0a1 x_0n1 x_0c1, .slice x_a1 x_n1 x_c1] 55)).alloc (.cells #[.bool y.1.1, .slice y_0a1 y_0n1 y_0c1, .slice y_a1 y_n1 y_c1] 55)) ((w.alloc (.cells #[.bool x.1.1, .slice x_0a1 x_0n1 x_0c1, .slice x_a1 x_n1 x_c1] 55)).alloc (.cells #[.bool y.1.1, .slice y_0a1 y_0n1 y_0c1, .slice y_a1 y_n1 y_c1] 55)) := More.refl _
    have HB : ∀ w', More ((w.alloc (.cells #[.bool x.1.1, .slice x_0a1 x_0n1 x_0c1, .slice x_a1 x_n1 x_c1] 55)).alloc (.cells #[.bool y.1.1, .slice y_0a1 y_0n1 y_0c1, .slice y_a1 y_n1 y_c1] 55)) w' → w'.cell? ⟨w.heap.size, 0, none⟩ = some (.bool x.1.1) ∧ w'.cell? ⟨w.heap.size, 1, none⟩ = some (.slice x_0a1 x_0n1 x_0c1) ∧ w'.cell? ⟨w.heap.size, 2, none⟩ = some (.slice x_a1 x_n1 x_c1) ∧ (∀ j, w'.frozen? ⟨w.heap.size, j, none⟩ = false) ∧ w'.cell? ⟨w.heap.size + 1, 0, none⟩ = some (.bool y.1.1) ∧ w'.cell? ⟨w.heap.size + 1, 1, none⟩ = some (.slice y_0a1 y_0n1 y_0c1) ∧ w'.cell? ⟨w.heap.size + 1, 2, none⟩ = some (.slice y_a1 y_n1 y_c1) ∧ (∀ j, w'.frozen? ⟨w.heap.size + 1, j, none⟩ = false) := fun w' h => ⟨box_new (by simp) (More.un h) 0, box_new (by simp) (More.un h) 1, box_new (by simp) (More.un h) 2, fun j => box_free (by simp) (More.un h) j, box_new (by simp) h 0, box_new (by simp) h 1, box_new (by simp) h 2, fun j => box_free (by simp) h j⟩
    go_enter Try.func43, Try.ntmps43
    go_wp2_with (first | (go_at_call 64; (with_reducible refine (spec_l04List _ _ x.1.2 y.1.2 _ (Ty.at_more FX1.out mC) (Ty.at_more FY1.out mC) HWX1.out HWY1.out).mono ?_); rintro e w1 ⟨rfl, hb1⟩; have HX : More ((w.alloc (.cells #[.bool x.1.1, .slice x_0a1 x_0n1 x_0c1, .slice x_a1 x_n1 x_c1] 55)).alloc (.cells #[.bool y.1.1, .slice y_0a1 y_0n1 y_0c1, .slice y_a1 y_n1 y_c1] 55)) _ := More.trans (by assumption) hb1; have HBw := HB _ HX) | (go_at_call 64; (with_reducible refine (spec_l04List _ _ x.2 y.2 _ (Ty.at_more FX2.out mC) (Ty.at_more FY2.out mC) HWX2.out HWY2.out).mono ?_); rintro e w1 ⟨rfl, hb1⟩; have HX : More ((w.alloc (.cells #[.bool x.1.1, .slice x_0a1 x_0n1 x_0c1, .slice x_a1 x_n1 x_c1] 55)).alloc (.cells #[.bool y.1.1, .slice y_0a1 y_0n1 y_0c1, .slice y_a1 y_n1 y_c1] 55)) _ := More.trans (by assumption) hb1; have HBw := HB _ HX))
    go_ret
    exact ⟨ret_bool (decide_eq_false (fun e => by have h := A1.out; rw [e] at h; simp at h)).symm, mC⟩
  rcases Bool.eq_false_or_eq_true (decide (x.2 = y.2)) with a2 | a2
  rotate_left
  · have A2 := Lib.hid a2
    have HX : More ((w.alloc (.cells #[.bool x.1.1, .slice x_0a1 x_0n1 x_0c1, .slice x_a1 x_n1 x_c1] 55)).alloc (.cells #[.bool y.1.1, .slice y_0a1 y_0n1 y_0c1, .slice y_a1 y_n1 y_c1] 55)) ((w.alloc (.cells #[.bool x.1.1, .slice x_0a1 x_0n1 x_0c1, .slice x_a1 x_n1 x_c1] 55)).alloc (.cells #[.bool y.1.1, .slice y_0a1 y_0n1 y_0c1, .slice y_a1 y_n1 y_c1] 55)) := More.refl _
    have HB : ∀ w', More ((w.alloc (.cells #[.bool x.1.1, .slice x_0a1 x_0n1 x_0c1, .slice x_a1 x_n1 x_c1] 55)).alloc (.cells #[.bool y.1.1, .slice y_0a1 y_0n1 y_0c1, .slice y_a1 y_n1 y_c1] 55)) w' → w'.cell? ⟨w.heap.size, 0, none⟩ = some (.bool x.1.1) ∧ w'.cell? ⟨w.heap.size, 1, none⟩ = some (.slice x_0a1 x_0n1 x_0c1) ∧ w'.cell? ⟨w.heap.size, 2, none⟩ = some (.slice x_a1 x_n1 x_c1) ∧ (∀ j, w'.frozen? ⟨w.heap.size, j, none⟩ = false) ∧ w'.cell? ⟨w.heap.size + 1, 0, none⟩ = some (.bool y.1.1) ∧ w'.cell? ⟨w.heap.size + 1, 1, none⟩ = some (.slice y_0a1 y_0n1 y_0c1) ∧ w'.cell? ⟨w.heap.size + 1, 2, none⟩ = some (.slice y_a1 y_n1 y_c1) ∧ (∀ j, w'.frozen? ⟨w.heap.size + 1, j, none⟩ = false) := fun w' h => ⟨box_new (by simp) (More.un h) 0, box_new (by simp) (More.un h) 1, box_new (by simp) (More.un h) 2, fun j => box_free (by simp) (More.un h) j, box_new (by simp) h 0, box_new (by simp) h 1, box_new (by simp) h 2, fun j => box_free (by simp) h j⟩
    go_enter Try.func43, Try.ntmps43
    go_wp2_with (first | (go_at_call 64; (with_reducible refine (spec_l04List _ _ x.1.2 y.1.2 _ (Ty.at_more FX1.out mC) (Ty.at_more FY1.out mC) HWX1.out HWY1.out).mono ?_); rintro e w1 ⟨rfl, hb1⟩; have HX : More ((w.alloc (.cells #[.bool x.1.1, .slice x_0a1 x_0n1 x_0c1, .slice x_a1 x_n1 x_c1] 55)).alloc (.cells #[.bool y.1.1, .slice y_0a1 y_0n1 y_0c1, .slice y_a1 y_n1 y_c1] 55)) _ := More.trans (by assumption) hb1; have HBw := HB _ HX) | (go_at_call 64; (with_reducible refine (spec_l04List _ _ x.2 y.2 _ (Ty.at_more FX2.out mC) (Ty.at_more FY2.out mC) HWX2.out HWY2.out).mono ?_); rintro e w1 ⟨rfl, hb1⟩; have HX : More ((w.alloc (.cells #[.bool x.1.1, .slice x_0a1 x_0n1 x_0c1, .slice x_a1 x_n1 x_c1] 55)).alloc (.cells #[.bool y.1.1, .slice y_0a1 y_0n1 y_0c1, .slice y_a1 y_n1 y_c1] 55)) _ := More.trans (by assumption) hb1; have HBw := HB _ HX))
    go_ret
    exact ⟨ret_bool (decide_eq_false (fun e => by have h := A2.out; rw [e] at h; simp at h)).symm, mC⟩
  have EQ : Hid (x = y) := Lib.hid (Prod.ext (Prod.ext (eq_of_beq a0) (of_decide_eq_true a1)) (of_decide_eq_true a2))
  have HX : More ((w.alloc (.cells #[.bool x.1.1, .slice x_0a1 x_0n1 x_0c1, .slice x_a1 x_n1 x_c1] 55)).alloc (.cells #[.bool y.1.1, .slice y_0a1 y_0n1 y_0c1, .slice y_a1 y_n1 y_c1] 55)) ((w.alloc (.cells #[.bool x.1.1, .slice x_0a1 x_0n1 x_0c1, .slice x_a1 x_n1 x_c1] 55)).alloc (.cells #[.bool y.1.1, .slice y_0a1 y_0n1 y_0c1, .slice y_a1 y_n1 y_c1] 55)) := More.refl _
  have HB : ∀ w', More ((w.alloc (.cells #[.bool x.1.1, .slice x_0a1 x_0n1 x_0c1, .slice x_a1 x_n1 x_c1] 55)).alloc (.cells #[.bool y.1.1, .slice y_0a1 y_0n1 y_0c1, .slice y_a1 y_n1 y_c1] 55)) w' → w'.cell? ⟨w.heap.size, 0, none⟩ = some (.bool x.1.1) ∧ w'.cell? ⟨w.heap.size, 1, none⟩ = some (.slice x_0a1 x_0n1 x_0c1) ∧ w'.cell? ⟨w.heap.size, 2, none⟩ = some (.slice x_a1 x_n1 x_c1) ∧ (∀ j, w'.frozen? ⟨w.heap.size, j, none⟩ = false) ∧ w'.cell? ⟨w.heap.size + 1, 0, none⟩ = some (.bool y.1.1) ∧ w'.cell? ⟨w.heap.size + 1, 1, none⟩ = some (.slice y_0a1 y_0n1 y_0c1) ∧ w'.cell? ⟨w.heap.size + 1, 2, none⟩ = some (.slice y_a1 y_n1 y_c1) ∧ (∀ j, w'.frozen? ⟨w.heap.size + 1, j, none⟩ = false) := fun w' h => ⟨box_new (by simp) (More.un h) 0, box_new (by simp) (More.un h) 1, box_new (by simp) (More.un h) 2, fun j => box_free (by simp) (More.un h) j, box_new (by simp) h 0, box_new (by simp) h 1, box_new (by simp) h 2, fun j => box_free (by simp) h j⟩
  go_enter Try.func43, Try.ntmps43
  go_wp2_with (first | (go_at_call 64; (with_reducible refine (spec_l04List _ _ x.1.2 y.1.2 _ (Ty.at_more FX1.out mC) (Ty.at_more FY1.out mC) HWX1.out HWY1.out).mono ?_); rintro e w1 ⟨rfl, hb1⟩; have HX : More ((w.alloc (.cells #[.bool x.1.1, .slice x_0a1 x_0n1 x_0c1, .slice x_a1 x_n1 x_c1] 55)).alloc (.cells #[.bool y.1.1, .slice y_0a1 y_0n1 y_0c1, .slice y_a1 y_n1 y_c1] 55)) _ := More.trans (by assumption) hb1; have HBw := HB _ HX) | (go_at_call 64; (with_reducible refine (spec_l04List _ _ x.2 y.2 _ (Ty.at_more FX2.out mC) (Ty.at_more FY2.out mC) HWX2.out HWY2.out).mono ?_); rintro e w1 ⟨rfl, hb1⟩; have HX : More ((w.alloc (.cells #[.bool x.1.1, .slice x_0a1 x_0n1 x_0c1, .slice x_a1 x_n1 x_c1] 55)).alloc (.cells #[.bool y.1.1, .slice y_0a1 y_0n1 y_0c1, .slice y_a1 y_n1 y_c1] 55)) _ := More.trans (by assumption) hb1; have HBw := HB _ HX))
  go_ret
  exact ⟨ret_bool (decide_eq_true EQ.out).symm, mC⟩
end Go.Proofs.Ytnndjbomfcacfaa
