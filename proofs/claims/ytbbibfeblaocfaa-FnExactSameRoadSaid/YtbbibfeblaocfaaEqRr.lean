/- Equality of roads: the reference's. -/
import Derived.Test.YtbbibfeblaocfaaEqRs
import Derived.Test.YtbbibfeblaocfaaEqSc
import Derived.Test.YtbbibfeblaocfaaEqSr
import Derived.Test.YtbbibfeblaocfaaThn
import Derived.Deep.RegionHeld3
import Derived.Deep.QuietTactic
import Derived.BigQuiet
import Derived.Laws.StructEq
namespace Go.Proofs.Ytbbibfeblaocfaa
open Go.RowKit
theorem rbx11 {X w : World} {c0 c1 c2 c3 c4 c5 c6 c7 c8 c9 c10 : Value} {t : TypeId} (N : Nat) (hN : X.heap.size = N) (h : More (X.alloc (.cells #[c0, c1, c2, c3, c4, c5, c6, c7, c8, c9, c10] t)) w) : w.cell? ⟨N, 0, none⟩ = some c0 ∧ w.cell? ⟨N, 1, none⟩ = some c1 ∧ w.cell? ⟨N, 2, none⟩ = some c2 ∧ w.cell? ⟨N, 3, none⟩ = some c3 ∧ w.cell? ⟨N, 4, none⟩ = some c4 ∧ w.cell? ⟨N, 5, none⟩ = some c5 ∧ w.cell? ⟨N, 6, none⟩ = some c6 ∧ w.cell? ⟨N, 7, none⟩ = some c7 ∧ w.cell? ⟨N, 8, none⟩ = some c8 ∧ w.cell? ⟨N, 9, none⟩ = some c9 ∧ w.cell? ⟨N, 10, none⟩ = some c10 ∧ (∀ j, w.frozen? ⟨N, j, none⟩ = false) := ⟨box_new hN h 0, box_new hN h 1, box_new hN h 2, box_new hN h 3, box_new hN h 4, box_new hN h 5, box_new hN h 6, box_new hN h 7, box_new hN h 8, box_new hN h 9, box_new hN h 10, fun j => box_free hN h j⟩
set_option maxRecDepth 8000 in
set_option maxHeartbeats 6400000 in
theorem spec_SameRoad (cs ds : List Value) (x y : QRoad) (w : World) (hv : tRoad.at w cs x) (hv' : tRoad.at w ds y) (hw : wRoad x ≤ 1048576) (hw' : wRoad y ≤ 1048576) :
    Calls Try.prog 35 #[.agg cs.toArray, .agg ds.toArray] w fun e w' => e = .returned (.bool (decide (x = y))) ∧ More w w' := by
  obtain ⟨x_k0, x_d0, rfl, x_f0, x_e0⟩ := at_prod hv
  obtain ⟨x_k1, x_d1, rfl, x_f1, x_e1⟩ := at_prod x_e0
  obtain ⟨x_k2, x_d2, rfl, x_f2, x_e2⟩ := at_prod x_e1
  have x_f3 := x_e2
  obtain ⟨x_0k0, x_0d0, rfl, x_0f0, x_0e0⟩ := at_prod x_f0
  obtain ⟨x_0k1, x_0d1, rfl, x_0f1, x_0e1⟩ := at_prod x_0e0
  obtain ⟨x_0k2, x_0d2, rfl, x_0f2, x_0e2⟩ := at_prod x_0e1
  obtain ⟨x_0k3, x_0d3, rfl, x_0f3, x_0e3⟩ := at_prod x_0e2
  have x_0f4 := x_0e3
  obtain ⟨x_00k0, x_00d0, rfl, x_00f0, x_00e0⟩ := at_prod x_0f0
  have x_00f1 := x_00e0
  obtain rfl := sh_int x_00f0
  obtain rfl := sh_int x_00f1
  obtain ⟨x_01k0, x_01d0, rfl, x_01f0, x_01e0⟩ := at_prod x_0f1
  have x_01f1 := x_01e0
  obtain rfl := sh_int x_01f0
  obtain rfl := sh_int x_01f1
  obtain ⟨x_0a2, x_0c2, rfl⟩ := sh_sliceL x_0f2
  obtain ⟨x_0a3, x_0c3, rfl⟩ := sh_sliceL x_0f3
  obtain ⟨x_0a4, x_0c4, rfl⟩ := sh_sliceL x_0f4
  obtain ⟨x_a1, x_c1, rfl⟩ := sh_sliceL x_f1
  obtain ⟨x_a2, x_c2, rfl⟩ := sh_sliceL x_f2
  obtain ⟨x_a3, x_c3, rfl⟩ := sh_sliceL x_f3
  obtain ⟨y_k0, y_d0, rfl, y_f0, y_e0⟩ := at_prod hv'
  obtain ⟨y_k1, y_d1, rfl, y_f1, y_e1⟩ := at_prod y_e0
  obtain ⟨y_k2, y_d2, rfl, y_f2, y_e2⟩ := at_prod y_e1
  have y_f3 := y_e2
  obtain ⟨y_0k0, y_0d0, rfl, y_0f0, y_0e0⟩ := at_prod y_f0
  obtain ⟨y_0k1, y_0d1, rfl, y_0f1, y_0e1⟩ := at_prod y_0e0
  obtain ⟨y_0k2, y_0d2, rfl, y_0f2, y_0e2⟩ := at_prod y_0e1
  obtain ⟨y_0k3, y_0d3, rfl, y_0f3, y_0e3⟩ := at_prod y_0e2
  have y_0f4 := y_0e3
  obtain ⟨y_00k0, y_00d0, rfl, y_00f0, y_00e0⟩ := at_prod y_0f0
  have y_00f1 := y_00e0
  obtain rfl := sh_int y_00f0
  obtain rfl := sh_int y_00f1
  obtain ⟨y_01k0, y_01d0, rfl, y_01f0, y_01e0⟩ := at_prod y_0f1
  have y_01f1 := y_01e0
  obtain rfl := sh_int y_01f0
  obtain rfl := sh_int y_01f1
  obtain ⟨y_0a2, y_0c2, rfl⟩ := sh_sliceL y_0f2
  obtain ⟨y_0a3, y_0c3, rfl⟩ := sh_sliceL y_0f3
  obtain ⟨y_0a4, y_0c4, rfl⟩ := sh_sliceL y_0f4
  obtain ⟨y_a1, y_c1, rfl⟩ := sh_sliceL y_f1
  obtain ⟨y_a2, y_c2, rfl⟩ := sh_sliceL y_f2
  obtain ⟨y_a3, y_c3, rfl⟩ := sh_sliceL y_f3
  have FX0 : Hid (tScene.at w [.int .i64 x.1.1.1, .int .i64 x.1.1.2, .int .i64 x.1.2.1.1, .int .i64 x.1.2.1.2, .slice x_0a2 x.1.2.2.1.length x_0c2, .slice x_0a3 x.1.2.2.2.1.length x_0c3, .slice x_0a4 x.1.2.2.2.2.length x_0c4] x.1) := Lib.hid x_f0; have FY0 : Hid (tScene.at w [.int .i64 y.1.1.1, .int .i64 y.1.1.2, .int .i64 y.1.2.1.1, .int .i64 y.1.2.1.2, .slice y_0a2 y.1.2.2.1.length y_0c2, .slice y_0a3 y.1.2.2.2.1.length y_0c3, .slice y_0a4 y.1.2.2.2.2.length y_0c4] y.1) := Lib.hid y_f0
  have HWX0 : Hid (wScene x.1 ≤ 1048576) := Lib.hid (by have := hw; unfold wRoad at this; omega)
  have HWY0 : Hid (wScene y.1 ≤ 1048576) := Lib.hid (by have := hw'; unfold wRoad at this; omega)
  have FX3 := Lib.hid x_f2; have FY3 := Lib.hid y_f2
  have HWX3 : Hid (x.2.2.1.length ≤ 1048576) := Lib.hid (show wIntS x.2.2.1 ≤ 1048576 by have := hw; unfold wRoad at this; omega)
  have HWY3 : Hid (y.2.2.1.length ≤ 1048576) := Lib.hid (show wIntS y.2.2.1 ≤ 1048576 by have := hw'; unfold wRoad at this; omega)
  have FXL0 := Lib.hid x_f1; have FYL0 := Lib.hid y_f1
  have HWXL0 : Hid (wSliceS x.2.1 ≤ 1048576) := Lib.hid (by have := hw; unfold wRoad at this; omega)
  have HWYL0 : Hid (wSliceS y.2.1 ≤ 1048576) := Lib.hid (by have := hw'; unfold wRoad at this; omega)
  have FXL1 := Lib.hid x_f3; have FYL1 := Lib.hid y_f3
  have HWXL1 : Hid (wIntSS x.2.2.2 ≤ 1048576) := Lib.hid (by have := hw; unfold wRoad at this; omega)
  have HWYL1 : Hid (wIntSS y.2.2.2 ≤ 1048576) := Lib.hid (by have := hw'; unfold wRoad at this; omega)
  have FXN1 := Lib.hid x_f1; have FYN1 := Lib.hid y_f1
  have HWXN1 : Hid (wSliceS x.2.1 ≤ 1048576) := Lib.hid (by have := hw; unfold wRoad at this; omega)
  have HWYN1 : Hid (wSliceS y.2.1 ≤ 1048576) := Lib.hid (by have := hw'; unfold wRoad at this; omega)
  have FXN2 := Lib.hid x_f3; have FYN2 := Lib.hid y_f3
  have HWXN2 : Hid (wIntSS x.2.2.2 ≤ 1048576) := Lib.hid (by have := hw; unfold wRoad at this; omega)
  have HWYN2 : Hid (wIntSS y.2.2.2 ≤ 1048576) := Lib.hid (by have := hw'; unfold wRoad at this; omega)
  have hlXL0 : x.2.1.length ≤ 1048576 := by have := HWXL0.out; unfold wSliceS at this; omega
  have hlYL0 : y.2.1.length ≤ 1048576 := by have := HWYL0.out; unfold wSliceS at this; omega
  have hlXL1 : x.2.2.2.length ≤ 1048576 := by have := HWXL1.out; unfold wIntSS at this; omega
  have hlYL1 : y.2.2.2.length ≤ 1048576 := by have := HWYL1.out; unfold wIntSS at this; omega
  have hlXN1 : x.2.1.length ≤ 1048576 := by have := HWXN1.out; unfold wSliceS at this; omega
  have hlYN1 : y.2.1.length ≤ 1048576 := by have := HWYN1.out; unfold wSliceS at this; omega
  have hlXN2 : x.2.2.2.length ≤ 1048576 := by have := HWXN2.out; unfold wIntSS at this; omega
  have hlYN2 : y.2.2.2.length ≤ 1048576 := by have := HWYN2.out; unfold wIntSS at this; omega
  clear hw hw'
  try clear x_00e0
  try clear x_00f0
  try clear x_00f1
  try clear x_01e0
  try clear x_01f0
  try clear x_01f1
  try clear x_0e0
  try clear x_0e1
  try clear x_0e2
  try clear x_0e3
  try clear x_0f0
  try clear x_0f1
  try clear x_0f2
  try clear x_0f3
  try clear x_0f4
  try clear x_e0
  try clear x_e1
  try clear x_e2
  try clear x_f0
  try clear x_f1
  try clear x_f2
  try clear x_f3
  try clear y_00e0
  try clear y_00f0
  try clear y_00f1
  try clear y_01e0
  try clear y_01f0
  try clear y_01f1
  try clear y_0e0
  try clear y_0e1
  try clear y_0e2
  try clear y_0e3
  try clear y_0f0
  try clear y_0f1
  try clear y_0f2
  try clear y_0f3
  try clear y_0f4
  try clear y_e0
  try clear y_e1
  try clear y_e2
  try clear y_f0
  try clear y_f1
  try clear y_f2
  try clear y_f3
  try clear hv
  try clear hv'
  show Calls Try.prog 35 #[.agg #[.int .i64 x.1.1.1, .int .i64 x.1.1.2, .int .i64 x.1.2.1.1, .int .i64 x.1.2.1.2, .slice x_0a2 x.1.2.2.1.length x_0c2, .slice x_0a3 x.1.2.2.2.1.length x_0c3, .slice x_0a4 x.1.2.2.2.2.length x_0c4, .slice x_a1 x.2.1.length x_c1, .slice x_a2 x.2.2.1.length x_c2, .slice x_a3 x.2.2.2.length x_c3], .agg #[.int .i64 y.1.1.1, .int .i64 y.1.1.2, .int .i64 y.1.2.1.1, .int .i64 y.1.2.1.2, .slice y_0a2 y.1.2.2.1.length y_0c2, .slice y_0a3 y.1.2.2.2.1.length y_0c3, .slice y_0a4 y.1.2.2.2.2.length y_0c4, .slice y_a1 y.2.1.length y_c1, .slice y_a2 y.2.2.1.length y_c2, .slice y_a3 y.2.2.2.length y_c3]] w _
  rcases Bool.eq_false_or_eq_true (decide (x.1 = y.1)) with a0 | a0
  rotate_left
  · have A0 := Lib.hid a0
    have HX : More ((w.alloc (.cells #[.int .i64 x.1.1.1, .int .i64 x.1.1.2, .int .i64 x.1.2.1.1, .int .i64 x.1.2.1.2, .slice x_0a2 x.1.2.2.1.length x_0c2, .slice x_0a3 x.1.2.2.2.1.length x_0c3, .slice x_0a4 x.1.2.2.2.2.length x_0c4, .slice x_a1 x.2.1.length x_c1, .slice x_a2 x.2.2.1.length x_c2, .slice x_a3 x.2.2.2.length x_c3] 80)).alloc (.cells #[.int .i64 y.1.1.1, .int .i64 y.1.1.2, .int .i64 y.1.2.1.1, .int .i64 y.1.2.1.2, .slice y_0a2 y.1.2.2.1.length y_0c2, .slice y_0a3 y.1.2.2.2.1.length y_0c3, .slice y_0a4 y.1.2.2.2.2.length y_0c4, .slice y_a1 y.2.1.length y_c1, .slice y_a2 y.2.2.1.length y_c2, .slice y_a3 y.2.2.2.length y_c3] 80)) ((w.alloc (.cells #[.int .i64 x.1.1.1, .int .i64 x.1.1.2, .int .i64 x.1.2.1.1, .int .i64 x.1.2.1.2, .slice x_0a2 x.1.2.2.1.length x_0c2, .slice x_0a3 x.1.2.2.2.1.length x_0c3, .slice x_0a4 x.1.2.2.2.2.length x_0c4, .slice x_a1 x.2.1.length x_c1, .slice x_a2 x.2.2.1.length x_c2, .slice x_a3 x.2.2.2.length x_c3] 80)).alloc (.cells #[.int .i64 y.1.1.1, .int .i64 y.1.1.2, .int .i64 y.1.2.1.1, .int .i64 y.1.2.1.2, .slice y_0a2 y.1.2.2.1.length y_0c2, .slice y_0a3 y.1.2.2.2.1.length y_0c3, .slice y_0a4 y.1.2.2.2.2.length y_0c4, .slice y_a1 y.2.1.length y_c1, .slice y_a2 y.2.2.1.length y_c2, .slice y_a3 y.2.2.2.length y_c3] 80)) := More.refl _
    have HB : ∀ w', More ((w.alloc (.cells #[.int .i64 x.1.1.1, .int .i64 x.1.1.2, .int .i64 x.1.2.1.1, .int .i64 x.1.2.1.2, .slice x_0a2 x.1.2.2.1.length x_0c2, .slice x_0a3 x.1.2.2.2.1.length x_0c3, .slice x_0a4 x.1.2.2.2.2.length x_0c4, .slice x_a1 x.2.1.length x_c1, .slice x_a2 x.2.2.1.length x_c2, .slice x_a3 x.2.2.2.length x_c3] 80)).alloc (.cells #[.int .i64 y.1.1.1, .int .i64 y.1.1.2, .int .i64 y.1.2.1.1, .int .i64 y.1.2.1.2, .slice y_0a2 y.1.2.2.1.length y_0c2, .slice y_0a3 y.1.2.2.2.1.length y_0c3, .slice y_0a4 y.1.2.2.2.2.length y_0c4, .slice y_a1 y.2.1.length y_c1, .slice y_a2 y.2.2.1.length y_c2, .slice y_a3 y.2.2.2.length y_c3] 80)) w' → w'.cell? ⟨w.heap.size, 0, none⟩ = some (.int .i64 x.1.1.1) ∧ w'.cell? ⟨w.heap.size, 1, none⟩ = some (.int .i64 x.1.1.2) ∧ w'.cell? ⟨w.heap.size, 2, none⟩ = some (.int .i64 x.1.2.1.1) ∧ w'.cell? ⟨w.heap.size, 3, none⟩ = some (.int .i64 x.1.2.1.2) ∧ w'.cell? ⟨w.heap.size, 4, none⟩ = some (.slice x_0a2 x.1.2.2.1.length x_0c2) ∧ w'.cell? ⟨w.heap.size, 5, none⟩ = some (.slice x_0a3 x.1.2.2.2.1.length x_0c3) ∧ w'.cell? ⟨w.heap.size, 6, none⟩ = some (.slice x_0a4 x.1.2.2.2.2.length x_0c4) ∧ w'.cell? ⟨w.heap.size, 7, none⟩ = some (.slice x_a1 x.2.1.length x_c1) ∧ w'.cell? ⟨w.heap.size, 8, none⟩ = some (.slice x_a2 x.2.2.1.length x_c2) ∧ w'.cell? ⟨w.heap.size, 9, none⟩ = some (.slice x_a3 x.2.2.2.length x_c3) ∧ (∀ j, w'.frozen? ⟨w.heap.size, j, none⟩ = false) ∧ w'.cell? ⟨w.heap.size + 1, 0, none⟩ = some (.int .i64 y.1.1.1) ∧ w'.cell? ⟨w.heap.size + 1, 1, none⟩ = some (.int .i64 y.1.1.2) ∧ w'.cell? ⟨w.heap.size + 1, 2, none⟩ = some (.int .i64 y.1.2.1.1) ∧ w'.cell? ⟨w.heap.size + 1, 3, none⟩ = some (.int .i64 y.1.2.1.2) ∧ w'.cell? ⟨w.heap.size + 1, 4, none⟩ = some (.slice y_0a2 y.1.2.2.1.length y_0c2) ∧ w'.cell? ⟨w.heap.size + 1, 5, none⟩ = some (.slice y_0a3 y.1.2.2.2.1.length y_0c3) ∧ w'.cell? ⟨w.heap.size + 1, 6, none⟩ = some (.slice y_0a4 y.1.2.2.2.2.length y_0c4) ∧ w'.cell? ⟨w.heap.size + 1, 7, none⟩ = some (.slice y_a1 y.2.1.length y_c1) ∧ w'.cell? ⟨w.heap.size + 1, 8, none⟩ = some (.slice y_a2 y.2.2.1.length y_c2) ∧ w'.cell? ⟨w.heap.size + 1, 9, none⟩ = some (.slice y_a3 y.2.2.2.length y_c3) ∧ (∀ j, w'.frozen? ⟨w.heap.size + 1, j, none⟩ = false) := fun w' h => ⟨box_new (by simp) (More.un h) 0, box_new (by simp) (More.un h) 1, box_new (by simp) (More.un h) 2, box_new (by simp) (More.un h) 3, box_new (by simp) (More.un h) 4, box_new (by simp) (More.un h) 5, box_new (by simp) (More.un h) 6, box_new (by simp) (More.un h) 7, box_new (by simp) (More.un h) 8, box_new (by simp) (More.un h) 9, fun j => box_free (by simp) (More.un h) j, box_new (by simp) h 0, box_new (by simp) h 1, box_new (by simp) h 2, box_new (by simp) h 3, box_new (by simp) h 4, box_new (by simp) h 5, box_new (by simp) h 6, box_new (by simp) h 7, box_new (by simp) h 8, box_new (by simp) h 9, fun j => box_free (by simp) h j⟩
    go_enter Try.func35, Try.ntmps35
    go_wp2_with (first | (go_at_call 106; (with_reducible refine (spec_SameScene _ _ x.1 y.1 _ (Ty.at_more FX0.out mC) (Ty.at_more FY0.out mC) HWX0.out HWY0.out).mono ?_); rintro e w1 ⟨rfl, hb1⟩; have HX : More ((w.alloc (.cells #[.int .i64 x.1.1.1, .int .i64 x.1.1.2, .int .i64 x.1.2.1.1, .int .i64 x.1.2.1.2, .slice x_0a2 x.1.2.2.1.length x_0c2, .slice x_0a3 x.1.2.2.2.1.length x_0c3, .slice x_0a4 x.1.2.2.2.2.length x_0c4, .slice x_a1 x.2.1.length x_c1, .slice x_a2 x.2.2.1.length x_c2, .slice x_a3 x.2.2.2.length x_c3] 80)).alloc (.cells #[.int .i64 y.1.1.1, .int .i64 y.1.1.2, .int .i64 y.1.2.1.1, .int .i64 y.1.2.1.2, .slice y_0a2 y.1.2.2.1.length y_0c2, .slice y_0a3 y.1.2.2.2.1.length y_0c3, .slice y_0a4 y.1.2.2.2.2.length y_0c4, .slice y_a1 y.2.1.length y_c1, .slice y_a2 y.2.2.1.length y_c2, .slice y_a3 y.2.2.2.length y_c3] 80)) _ := More.trans (by assumption) hb1; have HBw := HB _ HX) | (go_at_call 107; (with_reducible refine (spec_l19Ints _ _ x.2.2.1 y.2.2.1 _ (Ty.at_more FX3.out mC) (Ty.at_more FY3.out mC) HWX3.out HWY3.out).mono ?_); rintro e w1 ⟨rfl, hb1⟩; have HX : More ((w.alloc (.cells #[.int .i64 x.1.1.1, .int .i64 x.1.1.2, .int .i64 x.1.2.1.1, .int .i64 x.1.2.1.2, .slice x_0a2 x.1.2.2.1.length x_0c2, .slice x_0a3 x.1.2.2.2.1.length x_0c3, .slice x_0a4 x.1.2.2.2.2.length x_0c4, .slice x_a1 x.2.1.length x_c1, .slice x_a2 x.2.2.1.length x_c2, .slice x_a3 x.2.2.2.length x_c3] 80)).alloc (.cells #[.int .i64 y.1.1.1, .int .i64 y.1.1.2, .int .i64 y.1.2.1.1, .int .i64 y.1.2.1.2, .slice y_0a2 y.1.2.2.1.length y_0c2, .slice y_0a3 y.1.2.2.2.1.length y_0c3, .slice y_0a4 y.1.2.2.2.2.length y_0c4, .slice y_a1 y.2.1.length y_c1, .slice y_a2 y.2.2.1.length y_c2, .slice y_a3 y.2.2.2.length y_c3] 80)) _ := More.trans (by assumption) hb1; have HBw := HB _ HX))
    go_ret
    exact ⟨ret_bool (decide_eq_false (fun e => by have h := A0.out; rw [e] at h; simp at h)).symm, mC⟩
  have A0 := Lib.hid a0
  by_cases a1 : x.2.1.length = y.2.1.length
  rotate_left
  · have A1 := Lib.hid a1
    have b1 : ((x.2.1.length : Int) != (y.2.1.length : Int)) = true := by simp; omega
    have HX : More ((w.alloc (.cells #[.int .i64 x.1.1.1, .int .i64 x.1.1.2, .int .i64 x.1.2.1.1, .int .i64 x.1.2.1.2, .slice x_0a2 x.1.2.2.1.length x_0c2, .slice x_0a3 x.1.2.2.2.1.length x_0c3, .slice x_0a4 x.1.2.2.2.2.length x_0c4, .slice x_a1 x.2.1.length x_c1, .slice x_a2 x.2.2.1.length x_c2, .slice x_a3 x.2.2.2.length x_c3] 80)).alloc (.cells #[.int .i64 y.1.1.1, .int .i64 y.1.1.2, .int .i64 y.1.2.1.1, .int .i64 y.1.2.1.2, .slice y_0a2 y.1.2.2.1.length y_0c2, .slice y_0a3 y.1.2.2.2.1.length y_0c3, .slice y_0a4 y.1.2.2.2.2.length y_0c4, .slice y_a1 y.2.1.length y_c1, .slice y_a2 y.2.2.1.length y_c2, .slice y_a3 y.2.2.2.length y_c3] 80)) ((w.alloc (.cells #[.int .i64 x.1.1.1, .int .i64 x.1.1.2, .int .i64 x.1.2.1.1, .int .i64 x.1.2.1.2, .slice x_0a2 x.1.2.2.1.length x_0c2, .slice x_0a3 x.1.2.2.2.1.length x_0c3, .slice x_0a4 x.1.2.2.2.2.length x_0c4, .slice x_a1 x.2.1.length x_c1, .slice x_a2 x.2.2.1.length x_c2, .slice x_a3 x.2.2.2.length x_c3] 80)).alloc (.cells #[.int .i64 y.1.1.1, .int .i64 y.1.1.2, .int .i64 y.1.2.1.1, .int .i64 y.1.2.1.2, .slice y_0a2 y.1.2.2.1.length y_0c2, .slice y_0a3 y.1.2.2.2.1.length y_0c3, .slice y_0a4 y.1.2.2.2.2.length y_0c4, .slice y_a1 y.2.1.length y_c1, .slice y_a2 y.2.2.1.length y_c2, .slice y_a3 y.2.2.2.length y_c3] 80)) := More.refl _
    have HB : ∀ w', More ((w.alloc (.cells #[.int .i64 x.1.1.1, .int .i64 x.1.1.2, .int .i64 x.1.2.1.1, .int .i64 x.1.2.1.2, .slice x_0a2 x.1.2.2.1.length x_0c2, .slice x_0a3 x.1.2.2.2.1.length x_0c3, .slice x_0a4 x.1.2.2.2.2.length x_0c4, .slice x_a1 x.2.1.length x_c1, .slice x_a2 x.2.2.1.length x_c2, .slice x_a3 x.2.2.2.length x_c3] 80)).alloc (.cells #[.int .i64 y.1.1.1, .int .i64 y.1.1.2, .int .i64 y.1.2.1.1, .int .i64 y.1.2.1.2, .slice y_0a2 y.1.2.2.1.length y_0c2, .slice y_0a3 y.1.2.2.2.1.length y_0c3, .slice y_0a4 y.1.2.2.2.2.length y_0c4, .slice y_a1 y.2.1.length y_c1, .slice y_a2 y.2.2.1.length y_c2, .slice y_a3 y.2.2.2.length y_c3] 80)) w' → w'.cell? ⟨w.heap.size, 0, none⟩ = some (.int .i64 x.1.1.1) ∧ w'.cell? ⟨w.heap.size, 1, none⟩ = some (.int .i64 x.1.1.2) ∧ w'.cell? ⟨w.heap.size, 2, none⟩ = some (.int .i64 x.1.2.1.1) ∧ w'.cell? ⟨w.heap.size, 3, none⟩ = some (.int .i64 x.1.2.1.2) ∧ w'.cell? ⟨w.heap.size, 4, none⟩ = some (.slice x_0a2 x.1.2.2.1.length x_0c2) ∧ w'.cell? ⟨w.heap.size, 5, none⟩ = some (.slice x_0a3 x.1.2.2.2.1.length x_0c3) ∧ w'.cell? ⟨w.heap.size, 6, none⟩ = some (.slice x_0a4 x.1.2.2.2.2.length x_0c4) ∧ w'.cell? ⟨w.heap.size, 7, none⟩ = some (.slice x_a1 x.2.1.length x_c1) ∧ w'.cell? ⟨w.heap.size, 8, none⟩ = some (.slice x_a2 x.2.2.1.length x_c2) ∧ w'.cell? ⟨w.heap.size, 9, none⟩ = some (.slice x_a3 x.2.2.2.length x_c3) ∧ (∀ j, w'.frozen? ⟨w.heap.size, j, none⟩ = false) ∧ w'.cell? ⟨w.heap.size + 1, 0, none⟩ = some (.int .i64 y.1.1.1) ∧ w'.cell? ⟨w.heap.size + 1, 1, none⟩ = some (.int .i64 y.1.1.2) ∧ w'.cell? ⟨w.heap.size + 1, 2, none⟩ = some (.int .i64 y.1.2.1.1) ∧ w'.cell? ⟨w.heap.size + 1, 3, none⟩ = some (.int .i64 y.1.2.1.2) ∧ w'.cell? ⟨w.heap.size + 1, 4, none⟩ = some (.slice y_0a2 y.1.2.2.1.length y_0c2) ∧ w'.cell? ⟨w.heap.size + 1, 5, none⟩ = some (.slice y_0a3 y.1.2.2.2.1.length y_0c3) ∧ w'.cell? ⟨w.heap.size + 1, 6, none⟩ = some (.slice y_0a4 y.1.2.2.2.2.length y_0c4) ∧ w'.cell? ⟨w.heap.size + 1, 7, none⟩ = some (.slice y_a1 y.2.1.length y_c1) ∧ w'.cell? ⟨w.heap.size + 1, 8, none⟩ = some (.slice y_a2 y.2.2.1.length y_c2) ∧ w'.cell? ⟨w.heap.size + 1, 9, none⟩ = some (.slice y_a3 y.2.2.2.length y_c3) ∧ (∀ j, w'.frozen? ⟨w.heap.size + 1, j, none⟩ = false) := fun w' h => ⟨box_new (by simp) (More.un h) 0, box_new (by simp) (More.un h) 1, box_new (by simp) (More.un h) 2, box_new (by simp) (More.un h) 3, box_new (by simp) (More.un h) 4, box_new (by simp) (More.un h) 5, box_new (by simp) (More.un h) 6, box_new (by simp) (More.un h) 7, box_new (by simp) (More.un h) 8, box_new (by simp) (More.un h) 9, fun j => box_free (by simp) (More.un h) j, box_new (by simp) h 0, box_new (by simp) h 1, box_new (by simp) h 2, box_new (by simp) h 3, box_new (by simp) h 4, box_new (by simp) h 5, box_new (by simp) h 6, box_new (by simp) h 7, box_new (by simp) h 8, box_new (by simp) h 9, fun j => box_free (by simp) h j⟩
    go_enter Try.func35, Try.ntmps35
    go_wp2_with (first | (go_at_call 106; (with_reducible refine (spec_SameScene _ _ x.1 y.1 _ (Ty.at_more FX0.out mC) (Ty.at_more FY0.out mC) HWX0.out HWY0.out).mono ?_); rintro e w1 ⟨rfl, hb1⟩; have HX : More ((w.alloc (.cells #[.int .i64 x.1.1.1, .int .i64 x.1.1.2, .int .i64 x.1.2.1.1, .int .i64 x.1.2.1.2, .slice x_0a2 x.1.2.2.1.length x_0c2, .slice x_0a3 x.1.2.2.2.1.length x_0c3, .slice x_0a4 x.1.2.2.2.2.length x_0c4, .slice x_a1 x.2.1.length x_c1, .slice x_a2 x.2.2.1.length x_c2, .slice x_a3 x.2.2.2.length x_c3] 80)).alloc (.cells #[.int .i64 y.1.1.1, .int .i64 y.1.1.2, .int .i64 y.1.2.1.1, .int .i64 y.1.2.1.2, .slice y_0a2 y.1.2.2.1.length y_0c2, .slice y_0a3 y.1.2.2.2.1.length y_0c3, .slice y_0a4 y.1.2.2.2.2.length y_0c4, .slice y_a1 y.2.1.length y_c1, .slice y_a2 y.2.2.1.length y_c2, .slice y_a3 y.2.2.2.length y_c3] 80)) _ := More.trans (by assumption) hb1; have HBw := HB _ HX) | (go_at_call 107; (with_reducible refine (spec_l19Ints _ _ x.2.2.1 y.2.2.1 _ (Ty.at_more FX3.out mC) (Ty.at_more FY3.out mC) HWX3.out HWY3.out).mono ?_); rintro e w1 ⟨rfl, hb1⟩; have HX : More ((w.alloc (.cells #[.int .i64 x.1.1.1, .int .i64 x.1.1.2, .int .i64 x.1.2.1.1, .int .i64 x.1.2.1.2, .slice x_0a2 x.1.2.2.1.length x_0c2, .slice x_0a3 x.1.2.2.2.1.length x_0c3, .slice x_0a4 x.1.2.2.2.2.length x_0c4, .slice x_a1 x.2.1.length x_c1, .slice x_a2 x.2.2.1.length x_c2, .slice x_a3 x.2.2.2.length x_c3] 80)).alloc (.cells #[.int .i64 y.1.1.1, .int .i64 y.1.1.2, .int .i64 y.1.2.1.1, .int .i64 y.1.2.1.2, .slice y_0a2 y.1.2.2.1.length y_0c2, .slice y_0a3 y.1.2.2.2.1.length y_0c3, .slice y_0a4 y.1.2.2.2.2.length y_0c4, .slice y_a1 y.2.1.length y_c1, .slice y_a2 y.2.2.1.length y_c2, .slice y_a3 y.2.2.2.length y_c3] 80)) _ := More.trans (by assumption) hb1; have HBw := HB _ HX))
    go_ret
    exact ⟨ret_bool (decide_eq_false (fun e => A1.out (by rw [e]))).symm, mC⟩
  have b1 : ((x.2.1.length : Int) != (y.2.1.length : Int)) = false := by simp; omega
  have A1 := Lib.hid a1; clear a1
  by_cases a2 : x.2.2.2.length = y.2.2.2.length
  rotate_left
  · have A2 := Lib.hid a2
    have b2 : ((x.2.2.2.length : Int) != (y.2.2.2.length : Int)) = true := by simp; omega
    have HX : More ((w.alloc (.cells #[.int .i64 x.1.1.1, .int .i64 x.1.1.2, .int .i64 x.1.2.1.1, .int .i64 x.1.2.1.2, .slice x_0a2 x.1.2.2.1.length x_0c2, .slice x_0a3 x.1.2.2.2.1.length x_0c3, .slice x_0a4 x.1.2.2.2.2.length x_0c4, .slice x_a1 x.2.1.length x_c1, .slice x_a2 x.2.2.1.length x_c2, .slice x_a3 x.2.2.2.length x_c3] 80)).alloc (.cells #[.int .i64 y.1.1.1, .int .i64 y.1.1.2, .int .i64 y.1.2.1.1, .int .i64 y.1.2.1.2, .slice y_0a2 y.1.2.2.1.length y_0c2, .slice y_0a3 y.1.2.2.2.1.length y_0c3, .slice y_0a4 y.1.2.2.2.2.length y_0c4, .slice y_a1 y.2.1.length y_c1, .slice y_a2 y.2.2.1.length y_c2, .slice y_a3 y.2.2.2.length y_c3] 80)) ((w.alloc (.cells #[.int .i64 x.1.1.1, .int .i64 x.1.1.2, .int .i64 x.1.2.1.1, .int .i64 x.1.2.1.2, .slice x_0a2 x.1.2.2.1.length x_0c2, .slice x_0a3 x.1.2.2.2.1.length x_0c3, .slice x_0a4 x.1.2.2.2.2.length x_0c4, .slice x_a1 x.2.1.length x_c1, .slice x_a2 x.2.2.1.length x_c2, .slice x_a3 x.2.2.2.length x_c3] 80)).alloc (.cells #[.int .i64 y.1.1.1, .int .i64 y.1.1.2, .int .i64 y.1.2.1.1, .int .i64 y.1.2.1.2, .slice y_0a2 y.1.2.2.1.length y_0c2, .slice y_0a3 y.1.2.2.2.1.length y_0c3, .slice y_0a4 y.1.2.2.2.2.length y_0c4, .slice y_a1 y.2.1.length y_c1, .slice y_a2 y.2.2.1.length y_c2, .slice y_a3 y.2.2.2.length y_c3] 80)) := More.refl _
    have HB : ∀ w', More ((w.alloc (.cells #[.int .i64 x.1.1.1, .int .i64 x.1.1.2, .int .i64 x.1.2.1.1, .int .i64 x.1.2.1.2, .slice x_0a2 x.1.2.2.1.length x_0c2, .slice x_0a3 x.1.2.2.2.1.length x_0c3, .slice x_0a4 x.1.2.2.2.2.length x_0c4, .slice x_a1 x.2.1.length x_c1, .slice x_a2 x.2.2.1.length x_c2, .slice x_a3 x.2.2.2.length x_c3] 80)).alloc (.cells #[.int .i64 y.1.1.1, .int .i64 y.1.1.2, .int .i64 y.1.2.1.1, .int .i64 y.1.2.1.2, .slice y_0a2 y.1.2.2.1.length y_0c2, .slice y_0a3 y.1.2.2.2.1.length y_0c3, .slice y_0a4 y.1.2.2.2.2.length y_0c4, .slice y_a1 y.2.1.length y_c1, .slice y_a2 y.2.2.1.length y_c2, .slice y_a3 y.2.2.2.length y_c3] 80)) w' → w'.cell? ⟨w.heap.size, 0, none⟩ = some (.int .i64 x.1.1.1) ∧ w'.cell? ⟨w.heap.size, 1, none⟩ = some (.int .i64 x.1.1.2) ∧ w'.cell? ⟨w.heap.size, 2, none⟩ = some (.int .i64 x.1.2.1.1) ∧ w'.cell? ⟨w.heap.size, 3, none⟩ = some (.int .i64 x.1.2.1.2) ∧ w'.cell? ⟨w.heap.size, 4, none⟩ = some (.slice x_0a2 x.1.2.2.1.length x_0c2) ∧ w'.cell? ⟨w.heap.size, 5, none⟩ = some (.slice x_0a3 x.1.2.2.2.1.length x_0c3) ∧ w'.cell? ⟨w.heap.size, 6, none⟩ = some (.slice x_0a4 x.1.2.2.2.2.length x_0c4) ∧ w'.cell? ⟨w.heap.size, 7, none⟩ = some (.slice x_a1 x.2.1.length x_c1) ∧ w'.cell? ⟨w.heap.size, 8, none⟩ = some (.slice x_a2 x.2.2.1.length x_c2) ∧ w'.cell? ⟨w.heap.size, 9, none⟩ = some (.slice x_a3 x.2.2.2.length x_c3) ∧ (∀ j, w'.frozen? ⟨w.heap.size, j, none⟩ = false) ∧ w'.cell? ⟨w.heap.size + 1, 0, none⟩ = some (.int .i64 y.1.1.1) ∧ w'.cell? ⟨w.heap.size + 1, 1, none⟩ = some (.int .i64 y.1.1.2) ∧ w'.cell? ⟨w.heap.size + 1, 2, none⟩ = some (.int .i64 y.1.2.1.1) ∧ w'.cell? ⟨w.heap.size + 1, 3, none⟩ = some (.int .i64 y.1.2.1.2) ∧ w'.cell? ⟨w.heap.size + 1, 4, none⟩ = some (.slice y_0a2 y.1.2.2.1.length y_0c2) ∧ w'.cell? ⟨w.heap.size + 1, 5, none⟩ = some (.slice y_0a3 y.1.2.2.2.1.length y_0c3) ∧ w'.cell? ⟨w.heap.size + 1, 6, none⟩ = some (.slice y_0a4 y.1.2.2.2.2.length y_0c4) ∧ w'.cell? ⟨w.heap.size + 1, 7, none⟩ = some (.slice y_a1 y.2.1.length y_c1) ∧ w'.cell? ⟨w.heap.size + 1, 8, none⟩ = some (.slice y_a2 y.2.2.1.length y_c2) ∧ w'.cell? ⟨w.heap.size + 1, 9, none⟩ = some (.slice y_a3 y.2.2.2.length y_c3) ∧ (∀ j, w'.frozen? ⟨w.heap.size + 1, j, none⟩ = false) := fun w' h => ⟨box_new (by simp) (More.un h) 0, box_new (by simp) (More.un h) 1, box_new (by simp) (More.un h) 2, box_new (by simp) (More.un h) 3, box_new (by simp) (More.un h) 4, box_new (by simp) (More.un h) 5, box_new (by simp) (More.un h) 6, box_new (by simp) (More.un h) 7, box_new (by simp) (More.un h) 8, box_new (by simp) (More.un h) 9, fun j => box_free (by simp) (More.un h) j, box_new (by simp) h 0, box_new (by simp) h 1, box_new (by simp) h 2, box_new (by simp) h 3, box_new (by simp) h 4, box_new (by simp) h 5, box_new (by simp) h 6, box_new (by simp) h 7, box_new (by simp) h 8, box_new (by simp) h 9, fun j => box_free (by simp) h j⟩
    go_enter Try.func35, Try.ntmps35
    go_wp2_with (first | (go_at_call 106; (with_reducible refine (spec_SameScene _ _ x.1 y.1 _ (Ty.at_more FX0.out mC) (Ty.at_more FY0.out mC) HWX0.out HWY0.out).mono ?_); rintro e w1 ⟨rfl, hb1⟩; have HX : More ((w.alloc (.cells #[.int .i64 x.1.1.1, .int .i64 x.1.1.2, .int .i64 x.1.2.1.1, .int .i64 x.1.2.1.2, .slice x_0a2 x.1.2.2.1.length x_0c2, .slice x_0a3 x.1.2.2.2.1.length x_0c3, .slice x_0a4 x.1.2.2.2.2.length x_0c4, .slice x_a1 x.2.1.length x_c1, .slice x_a2 x.2.2.1.length x_c2, .slice x_a3 x.2.2.2.length x_c3] 80)).alloc (.cells #[.int .i64 y.1.1.1, .int .i64 y.1.1.2, .int .i64 y.1.2.1.1, .int .i64 y.1.2.1.2, .slice y_0a2 y.1.2.2.1.length y_0c2, .slice y_0a3 y.1.2.2.2.1.length y_0c3, .slice y_0a4 y.1.2.2.2.2.length y_0c4, .slice y_a1 y.2.1.length y_c1, .slice y_a2 y.2.2.1.length y_c2, .slice y_a3 y.2.2.2.length y_c3] 80)) _ := More.trans (by assumption) hb1; have HBw := HB _ HX) | (go_at_call 107; (with_reducible refine (spec_l19Ints _ _ x.2.2.1 y.2.2.1 _ (Ty.at_more FX3.out mC) (Ty.at_more FY3.out mC) HWX3.out HWY3.out).mono ?_); rintro e w1 ⟨rfl, hb1⟩; have HX : More ((w.alloc (.cells #[.int .i64 x.1.1.1, .int .i64 x.1.1.2, .int .i64 x.1.2.1.1, .int .i64 x.1.2.1.2, .slice x_0a2 x.1.2.2.1.length x_0c2, .slice x_0a3 x.1.2.2.2.1.length x_0c3, .slice x_0a4 x.1.2.2.2.2.length x_0c4, .slice x_a1 x.2.1.length x_c1, .slice x_a2 x.2.2.1.length x_c2, .slice x_a3 x.2.2.2.length x_c3] 80)).alloc (.cells #[.int .i64 y.1.1.1, .int .i64 y.1.1.2, .int .i64 y.1.2.1.1, .int .i64 y.1.2.1.2, .slice y_0a2 y.1.2.2.1.length y_0c2, .slice y_0a3 y.1.2.2.2.1.length y_0c3, .slice y_0a4 y.1.2.2.2.2.length y_0c4, .slice y_a1 y.2.1.length y_c1, .slice y_a2 y.2.2.1.length y_c2, .slice y_a3 y.2.2.2.length y_c3] 80)) _ := More.trans (by assumption) hb1; have HBw := HB _ HX))
    go_ret
    exact ⟨ret_bool (decide_eq_false (fun e => A2.out (by rw [e]))).symm, mC⟩
  have b2 : ((x.2.2.2.length : Int) != (y.2.2.2.length : Int)) = false := by simp; omega
  have A2 := Lib.hid a2; clear a2
  rcases Bool.eq_false_or_eq_true (decide (x.2.2.1 = y.2.2.1)) with a3 | a3
  rotate_left
  · have A3 := Lib.hid a3
    have HX : More ((w.alloc (.cells #[.int .i64 x.1.1.1, .int .i64 x.1.1.2, .int .i64 x.1.2.1.1, .int .i64 x.1.2.1.2, .slice x_0a2 x.1.2.2.1.length x_0c2, .slice x_0a3 x.1.2.2.2.1.length x_0c3, .slice x_0a4 x.1.2.2.2.2.length x_0c4, .slice x_a1 x.2.1.length x_c1, .slice x_a2 x.2.2.1.length x_c2, .slice x_a3 x.2.2.2.length x_c3] 80)).alloc (.cells #[.int .i64 y.1.1.1, .int .i64 y.1.1.2, .int .i64 y.1.2.1.1, .int .i64 y.1.2.1.2, .slice y_0a2 y.1.2.2.1.length y_0c2, .slice y_0a3 y.1.2.2.2.1.length y_0c3, .slice y_0a4 y.1.2.2.2.2.length y_0c4, .slice y_a1 y.2.1.length y_c1, .slice y_a2 y.2.2.1.length y_c2, .slice y_a3 y.2.2.2.length y_c3] 80)) ((w.alloc (.cells #[.int .i64 x.1.1.1, .int .i64 x.1.1.2, .int .i64 x.1.2.1.1, .int .i64 x.1.2.1.2, .slice x_0a2 x.1.2.2.1.length x_0c2, .slice x_0a3 x.1.2.2.2.1.length x_0c3, .slice x_0a4 x.1.2.2.2.2.length x_0c4, .slice x_a1 x.2.1.length x_c1, .slice x_a2 x.2.2.1.length x_c2, .slice x_a3 x.2.2.2.length x_c3] 80)).alloc (.cells #[.int .i64 y.1.1.1, .int .i64 y.1.1.2, .int .i64 y.1.2.1.1, .int .i64 y.1.2.1.2, .slice y_0a2 y.1.2.2.1.length y_0c2, .slice y_0a3 y.1.2.2.2.1.length y_0c3, .slice y_0a4 y.1.2.2.2.2.length y_0c4, .slice y_a1 y.2.1.length y_c1, .slice y_a2 y.2.2.1.length y_c2, .slice y_a3 y.2.2.2.length y_c3] 80)) := More.refl _
    have HB : ∀ w', More ((w.alloc (.cells #[.int .i64 x.1.1.1, .int .i64 x.1.1.2, .int .i64 x.1.2.1.1, .int .i64 x.1.2.1.2, .slice x_0a2 x.1.2.2.1.length x_0c2, .slice x_0a3 x.1.2.2.2.1.length x_0c3, .slice x_0a4 x.1.2.2.2.2.length x_0c4, .slice x_a1 x.2.1.length x_c1, .slice x_a2 x.2.2.1.length x_c2, .slice x_a3 x.2.2.2.length x_c3] 80)).alloc (.cells #[.int .i64 y.1.1.1, .int .i64 y.1.1.2, .int .i64 y.1.2.1.1, .int .i64 y.1.2.1.2, .slice y_0a2 y.1.2.2.1.length y_0c2, .slice y_0a3 y.1.2.2.2.1.length y_0c3, .slice y_0a4 y.1.2.2.2.2.length y_0c4, .slice y_a1 y.2.1.length y_c1, .slice y_a2 y.2.2.1.length y_c2, .slice y_a3 y.2.2.2.length y_c3] 80)) w' → w'.cell? ⟨w.heap.size, 0, none⟩ = some (.int .i64 x.1.1.1) ∧ w'.cell? ⟨w.heap.size, 1, none⟩ = some (.int .i64 x.1.1.2) ∧ w'.cell? ⟨w.heap.size, 2, none⟩ = some (.int .i64 x.1.2.1.1) ∧ w'.cell? ⟨w.heap.size, 3, none⟩ = some (.int .i64 x.1.2.1.2) ∧ w'.cell? ⟨w.heap.size, 4, none⟩ = some (.slice x_0a2 x.1.2.2.1.length x_0c2) ∧ w'.cell? ⟨w.heap.size, 5, none⟩ = some (.slice x_0a3 x.1.2.2.2.1.length x_0c3) ∧ w'.cell? ⟨w.heap.size, 6, none⟩ = some (.slice x_0a4 x.1.2.2.2.2.length x_0c4) ∧ w'.cell? ⟨w.heap.size, 7, none⟩ = some (.slice x_a1 x.2.1.length x_c1) ∧ w'.cell? ⟨w.heap.size, 8, none⟩ = some (.slice x_a2 x.2.2.1.length x_c2) ∧ w'.cell? ⟨w.heap.size, 9, none⟩ = some (.slice x_a3 x.2.2.2.length x_c3) ∧ (∀ j, w'.frozen? ⟨w.heap.size, j, none⟩ = false) ∧ w'.cell? ⟨w.heap.size + 1, 0, none⟩ = some (.int .i64 y.1.1.1) ∧ w'.cell? ⟨w.heap.size + 1, 1, none⟩ = some (.int .i64 y.1.1.2) ∧ w'.cell? ⟨w.heap.size + 1, 2, none⟩ = some (.int .i64 y.1.2.1.1) ∧ w'.cell? ⟨w.heap.size + 1, 3, none⟩ = some (.int .i64 y.1.2.1.2) ∧ w'.cell? ⟨w.heap.size + 1, 4, none⟩ = some (.slice y_0a2 y.1.2.2.1.length y_0c2) ∧ w'.cell? ⟨w.heap.size + 1, 5, none⟩ = some (.slice y_0a3 y.1.2.2.2.1.length y_0c3) ∧ w'.cell? ⟨w.heap.size + 1, 6, none⟩ = some (.slice y_0a4 y.1.2.2.2.2.length y_0c4) ∧ w'.cell? ⟨w.heap.size + 1, 7, none⟩ = some (.slice y_a1 y.2.1.length y_c1) ∧ w'.cell? ⟨w.heap.size + 1, 8, none⟩ = some (.slice y_a2 y.2.2.1.length y_c2) ∧ w'.cell? ⟨w.heap.size + 1, 9, none⟩ = some (.slice y_a3 y.2.2.2.length y_c3) ∧ (∀ j, w'.frozen? ⟨w.heap.size + 1, j, none⟩ = false) := fun w' h => ⟨box_new (by simp) (More.un h) 0, box_new (by simp) (More.un h) 1, box_new (by simp) (More.un h) 2, box_new (by simp) (More.un h) 3, box_new (by simp) (More.un h) 4, box_new (by simp) (More.un h) 5, box_new (by simp) (More.un h) 6, box_new (by simp) (More.un h) 7, box_new (by simp) (More.un h) 8, box_new (by simp) (More.un h) 9, fun j => box_free (by simp) (More.un h) j, box_new (by simp) h 0, box_new (by simp) h 1, box_new (by simp) h 2, box_new (by simp) h 3, box_new (by simp) h 4, box_new (by simp) h 5, box_new (by simp) h 6, box_new (by simp) h 7, box_new (by simp) h 8, box_new (by simp) h 9, fun j => box_free (by simp) h j⟩
    go_enter Try.func35, Try.ntmps35
    go_wp2_with (first | (go_at_call 106; (with_reducible refine (spec_SameScene _ _ x.1 y.1 _ (Ty.at_more FX0.out mC) (Ty.at_more FY0.out mC) HWX0.out HWY0.out).mono ?_); rintro e w1 ⟨rfl, hb1⟩; have HX : More ((w.alloc (.cells #[.int .i64 x.1.1.1, .int .i64 x.1.1.2, .int .i64 x.1.2.1.1, .int .i64 x.1.2.1.2, .slice x_0a2 x.1.2.2.1.length x_0c2, .slice x_0a3 x.1.2.2.2.1.length x_0c3, .slice x_0a4 x.1.2.2.2.2.length x_0c4, .slice x_a1 x.2.1.length x_c1, .slice x_a2 x.2.2.1.length x_c2, .slice x_a3 x.2.2.2.length x_c3] 80)).alloc (.cells #[.int .i64 y.1.1.1, .int .i64 y.1.1.2, .int .i64 y.1.2.1.1, .int .i64 y.1.2.1.2, .slice y_0a2 y.1.2.2.1.length y_0c2, .slice y_0a3 y.1.2.2.2.1.length y_0c3, .slice y_0a4 y.1.2.2.2.2.length y_0c4, .slice y_a1 y.2.1.length y_c1, .slice y_a2 y.2.2.1.length y_c2, .slice y_a3 y.2.2.2.length y_c3] 80)) _ := More.trans (by assumption) hb1; have HBw := HB _ HX) | (go_at_call 107; (with_reducible refine (spec_l19Ints _ _ x.2.2.1 y.2.2.1 _ (Ty.at_more FX3.out mC) (Ty.at_more FY3.out mC) HWX3.out HWY3.out).mono ?_); rintro e w1 ⟨rfl, hb1⟩; have HX : More ((w.alloc (.cells #[.int .i64 x.1.1.1, .int .i64 x.1.1.2, .int .i64 x.1.2.1.1, .int .i64 x.1.2.1.2, .slice x_0a2 x.1.2.2.1.length x_0c2, .slice x_0a3 x.1.2.2.2.1.length x_0c3, .slice x_0a4 x.1.2.2.2.2.length x_0c4, .slice x_a1 x.2.1.length x_c1, .slice x_a2 x.2.2.1.length x_c2, .slice x_a3 x.2.2.2.length x_c3] 80)).alloc (.cells #[.int .i64 y.1.1.1, .int .i64 y.1.1.2, .int .i64 y.1.2.1.1, .int .i64 y.1.2.1.2, .slice y_0a2 y.1.2.2.1.length y_0c2, .slice y_0a3 y.1.2.2.2.1.length y_0c3, .slice y_0a4 y.1.2.2.2.2.length y_0c4, .slice y_a1 y.2.1.length y_c1, .slice y_a2 y.2.2.1.length y_c2, .slice y_a3 y.2.2.2.length y_c3] 80)) _ := More.trans (by assumption) hb1; have HBw := HB _ HX))
    go_ret
    exact ⟨ret_bool (decide_eq_false (fun e => by have h := A3.out; rw [e] at h; simp at h)).symm, mC⟩
  have A3 := Lib.hid a3
  have HX : More ((w.alloc (.cells #[.int .i64 x.1.1.1, .int .i64 x.1.1.2, .int .i64 x.1.2.1.1, .int .i64 x.1.2.1.2, .slice x_0a2 x.1.2.2.1.length x_0c2, .slice x_0a3 x.1.2.2.2.1.length x_0c3, .slice x_0a4 x.1.2.2.2.2.length x_0c4, .slice x_a1 x.2.1.length x_c1, .slice x_a2 x.2.2.1.length x_c2, .slice x_a3 x.2.2.2.length x_c3] 80)).alloc (.cells #[.int .i64 y.1.1.1, .int .i64 y.1.1.2, .int .i64 y.1.2.1.1, .int .i64 y.1.2.1.2, .slice y_0a2 y.1.2.2.1.length y_0c2, .slice y_0a3 y.1.2.2.2.1.length y_0c3, .slice y_0a4 y.1.2.2.2.2.length y_0c4, .slice y_a1 y.2.1.length y_c1, .slice y_a2 y.2.2.1.length y_c2, .slice y_a3 y.2.2.2.length y_c3] 80)) ((w.alloc (.cells #[.int .i64 x.1.1.1, .int .i64 x.1.1.2, .int .i64 x.1.2.1.1, .int .i64 x.1.2.1.2, .slice x_0a2 x.1.2.2.1.length x_0c2, .slice x_0a3 x.1.2.2.2.1.length x_0c3, .slice x_0a4 x.1.2.2.2.2.length x_0c4, .slice x_a1 x.2.1.length x_c1, .slice x_a2 x.2.2.1.length x_c2, .slice x_a3 x.2.2.2.length x_c3] 80)).alloc (.cells #[.int .i64 y.1.1.1, .int .i64 y.1.1.2, .int .i64 y.1.2.1.1, .int .i64 y.1.2.1.2, .slice y_0a2 y.1.2.2.1.length y_0c2, .slice y_0a3 y.1.2.2.2.1.length y_0c3, .slice y_0a4 y.1.2.2.2.2.length y_0c4, .slice y_a1 y.2.1.length y_c1, .slice y_a2 y.2.2.1.length y_c2, .slice y_a3 y.2.2.2.length y_c3] 80)) := More.refl _
  have HB : ∀ w', More ((w.alloc (.cells #[.int .i64 x.1.1.1, .int .i64 x.1.1.2, .int .i64 x.1.2.1.1, .int .i64 x.1.2.1.2, .slice x_0a2 x.1.2.2.1.length x_0c2, .slice x_0a3 x.1.2.2.2.1.length x_0c3, .slice x_0a4 x.1.2.2.2.2.length x_0c4, .slice x_a1 x.2.1.length x_c1, .slice x_a2 x.2.2.1.length x_c2, .slice x_a3 x.2.2.2.length x_c3] 80)).alloc (.cells #[.int .i64 y.1.1.1, .int .i64 y.1.1.2, .int .i64 y.1.2.1.1, .int .i64 y.1.2.1.2, .slice y_0a2 y.1.2.2.1.length y_0c2, .slice y_0a3 y.1.2.2.2.1.length y_0c3, .slice y_0a4 y.1.2.2.2.2.length y_0c4, .slice y_a1 y.2.1.length y_c1, .slice y_a2 y.2.2.1.length y_c2, .slice y_a3 y.2.2.2.length y_c3] 80)) w' → w'.cell? ⟨w.heap.size, 0, none⟩ = some (.int .i64 x.1.1.1) ∧ w'.cell? ⟨w.heap.size, 1, none⟩ = some (.int .i64 x.1.1.2) ∧ w'.cell? ⟨w.heap.size, 2, none⟩ = some (.int .i64 x.1.2.1.1) ∧ w'.cell? ⟨w.heap.size, 3, none⟩ = some (.int .i64 x.1.2.1.2) ∧ w'.cell? ⟨w.heap.size, 4, none⟩ = some (.slice x_0a2 x.1.2.2.1.length x_0c2) ∧ w'.cell? ⟨w.heap.size, 5, none⟩ = some (.slice x_0a3 x.1.2.2.2.1.length x_0c3) ∧ w'.cell? ⟨w.heap.size, 6, none⟩ = some (.slice x_0a4 x.1.2.2.2.2.length x_0c4) ∧ w'.cell? ⟨w.heap.size, 7, none⟩ = some (.slice x_a1 x.2.1.length x_c1) ∧ w'.cell? ⟨w.heap.size, 8, none⟩ = some (.slice x_a2 x.2.2.1.length x_c2) ∧ w'.cell? ⟨w.heap.size, 9, none⟩ = some (.slice x_a3 x.2.2.2.length x_c3) ∧ (∀ j, w'.frozen? ⟨w.heap.size, j, none⟩ = false) ∧ w'.cell? ⟨w.heap.size + 1, 0, none⟩ = some (.int .i64 y.1.1.1) ∧ w'.cell? ⟨w.heap.size + 1, 1, none⟩ = some (.int .i64 y.1.1.2) ∧ w'.cell? ⟨w.heap.size + 1, 2, none⟩ = some (.int .i64 y.1.2.1.1) ∧ w'.cell? ⟨w.heap.size + 1, 3, none⟩ = some (.int .i64 y.1.2.1.2) ∧ w'.cell? ⟨w.heap.size + 1, 4, none⟩ = some (.slice y_0a2 y.1.2.2.1.length y_0c2) ∧ w'.cell? ⟨w.heap.size + 1, 5, none⟩ = some (.slice y_0a3 y.1.2.2.2.1.length y_0c3) ∧ w'.cell? ⟨w.heap.size + 1, 6, none⟩ = some (.slice y_0a4 y.1.2.2.2.2.length y_0c4) ∧ w'.cell? ⟨w.heap.size + 1, 7, none⟩ = some (.slice y_a1 y.2.1.length y_c1) ∧ w'.cell? ⟨w.heap.size + 1, 8, none⟩ = some (.slice y_a2 y.2.2.1.length y_c2) ∧ w'.cell? ⟨w.heap.size + 1, 9, none⟩ = some (.slice y_a3 y.2.2.2.length y_c3) ∧ (∀ j, w'.frozen? ⟨w.heap.size + 1, j, none⟩ = false) := fun w' h => ⟨box_new (by simp) (More.un h) 0, box_new (by simp) (More.un h) 1, box_new (by simp) (More.un h) 2, box_new (by simp) (More.un h) 3, box_new (by simp) (More.un h) 4, box_new (by simp) (More.un h) 5, box_new (by simp) (More.un h) 6, box_new (by simp) (More.un h) 7, box_new (by simp) (More.un h) 8, box_new (by simp) (More.un h) 9, fun j => box_free (by simp) (More.un h) j, box_new (by simp) h 0, box_new (by simp) h 1, box_new (by simp) h 2, box_new (by simp) h 3, box_new (by simp) h 4, box_new (by simp) h 5, box_new (by simp) h 6, box_new (by simp) h 7, box_new (by simp) h 8, box_new (by simp) h 9, fun j => box_free (by simp) h j⟩
  go_enter Try.func35, Try.ntmps35
  go_wp2_with (first | (go_at_call 106; (with_reducible refine (spec_SameScene _ _ x.1 y.1 _ (Ty.at_more FX0.out mC) (Ty.at_more FY0.out mC) HWX0.out HWY0.out).mono ?_); rintro e w1 ⟨rfl, hb1⟩; have HX : More ((w.alloc (.cells #[.int .i64 x.1.1.1, .int .i64 x.1.1.2, .int .i64 x.1.2.1.1, .int .i64 x.1.2.1.2, .slice x_0a2 x.1.2.2.1.length x_0c2, .slice x_0a3 x.1.2.2.2.1.length x_0c3, .slice x_0a4 x.1.2.2.2.2.length x_0c4, .slice x_a1 x.2.1.length x_c1, .slice x_a2 x.2.2.1.length x_c2, .slice x_a3 x.2.2.2.length x_c3] 80)).alloc (.cells #[.int .i64 y.1.1.1, .int .i64 y.1.1.2, .int .i64 y.1.2.1.1, .int .i64 y.1.2.1.2, .slice y_0a2 y.1.2.2.1.length y_0c2, .slice y_0a3 y.1.2.2.2.1.length y_0c3, .slice y_0a4 y.1.2.2.2.2.length y_0c4, .slice y_a1 y.2.1.length y_c1, .slice y_a2 y.2.2.1.length y_c2, .slice y_a3 y.2.2.2.length y_c3] 80)) _ := More.trans (by assumption) hb1; have HBw := HB _ HX) | (go_at_call 107; (with_reducible refine (spec_l19Ints _ _ x.2.2.1 y.2.2.1 _ (Ty.at_more FX3.out mC) (Ty.at_more FY3.out mC) HWX3.out HWY3.out).mono ?_); rintro e w1 ⟨rfl, hb1⟩; have HX : More ((w.alloc (.cells #[.int .i64 x.1.1.1, .int .i64 x.1.1.2, .int .i64 x.1.2.1.1, .int .i64 x.1.2.1.2, .slice x_0a2 x.1.2.2.1.length x_0c2, .slice x_0a3 x.1.2.2.2.1.length x_0c3, .slice x_0a4 x.1.2.2.2.2.length x_0c4, .slice x_a1 x.2.1.length x_c1, .slice x_a2 x.2.2.1.length x_c2, .slice x_a3 x.2.2.2.length x_c3] 80)).alloc (.cells #[.int .i64 y.1.1.1, .int .i64 y.1.1.2, .int .i64 y.1.2.1.1, .int .i64 y.1.2.1.2, .slice y_0a2 y.1.2.2.1.length y_0c2, .slice y_0a3 y.1.2.2.2.1.length y_0c3, .slice y_0a4 y.1.2.2.2.2.length y_0c4, .slice y_a1 y.2.1.length y_c1, .slice y_a2 y.2.2.1.length y_c2, .slice y_a3 y.2.2.2.length y_c3] 80)) _ := More.trans (by assumption) hb1; have HBw := HB _ HX))
  go_loopw [44] (fun i wr => ∃ k : Nat, k ≤ x.2.1.length ∧ i = .int .i64 k ∧ More ((w.alloc (.cells #[.int .i64 x.1.1.1, .int .i64 x.1.1.2, .int .i64 x.1.2.1.1, .int .i64 x.1.2.1.2, .slice x_0a2 x.1.2.2.1.length x_0c2, .slice x_0a3 x.1.2.2.2.1.length x_0c3, .slice x_0a4 x.1.2.2.2.2.length x_0c4, .slice x_a1 x.2.1.length x_c1, .slice x_a2 x.2.2.1.length x_c2, .slice x_a3 x.2.2.2.length x_c3] 80)).alloc (.cells #[.int .i64 y.1.1.1, .int .i64 y.1.1.2, .int .i64 y.1.2.1.1, .int .i64 y.1.2.1.2, .slice y_0a2 y.1.2.2.1.length y_0c2, .slice y_0a3 y.1.2.2.2.1.length y_0c3, .slice y_0a4 y.1.2.2.2.2.length y_0c4, .slice y_a1 y.2.1.length y_c1, .slice y_a2 y.2.2.1.length y_c2, .slice y_a3 y.2.2.2.length y_c3] 80)) wr ∧ Hid (∀ j, j < k → x.2.1[j]? = y.2.1[j]?)) (fun i _ => x.2.1.length - (intOf i).toNat)
  case atStart => exact ⟨0, Nat.zero_le _, rfl, mC, Lib.hid (fun j hj => by omega)⟩
  case round =>
    try clear HMW HMB
    obtain ⟨k, hk, rfl, hmr, HE⟩ := hrel
    have HMW := Lib.hid (More.trans (show More w ((w.alloc (.cells #[.int .i64 x.1.1.1, .int .i64 x.1.1.2, .int .i64 x.1.2.1.1, .int .i64 x.1.2.1.2, .slice x_0a2 x.1.2.2.1.length x_0c2, .slice x_0a3 x.1.2.2.2.1.length x_0c3, .slice x_0a4 x.1.2.2.2.2.length x_0c4, .slice x_a1 x.2.1.length x_c1, .slice x_a2 x.2.2.1.length x_c2, .slice x_a3 x.2.2.2.length x_c3] 80)).alloc (.cells #[.int .i64 y.1.1.1, .int .i64 y.1.1.2, .int .i64 y.1.2.1.1, .int .i64 y.1.2.1.2, .slice y_0a2 y.1.2.2.1.length y_0c2, .slice y_0a3 y.1.2.2.2.1.length y_0c3, .slice y_0a4 y.1.2.2.2.2.length y_0c4, .slice y_a1 y.2.1.length y_c1, .slice y_a2 y.2.2.1.length y_c2, .slice y_a3 y.2.2.2.length y_c3] 80)) from mC) hmr)
    have HMB := Lib.hid hmr
    have HBw := HB _ hmr
    by_cases hlt : k < x.2.1.length
    · obtain ⟨b, off, a, p0a6, p0n6, p0c6, p0a7, p0n7, p0c7, p0a8, p0n8, p0c8, p0a9, p0n9, p0c9, p0a10, p0n10, p0c10, hadr, hblt, hx, hat, c0_, c1_, c2_, c3_, c4_, c5_, c6_, c7_, c8_, c9_, c10_⟩ := el_Slice (Ty.at_more FXL0.out HMW.out) (k := k) hlt
      obtain ⟨b', off', c, q0a6, q0n6, q0c6, q0a7, q0n7, q0c7, q0a8, q0n8, q0c8, q0a9, q0n9, q0c9, q0a10, q0n10, q0c10, hadr', hblt', hy, hat', d0_, d1_, d2_, d3_, d4_, d5_, d6_, d7_, d8_, d9_, d10_⟩ := el_Slice (Ty.at_more FYL0.out HMW.out) (k := k) (by rw [← A1.out]; exact hlt)
      subst hadr; subst hadr'
      have HX_ := Lib.hid hx; have HY_ := Lib.hid hy; have HA := Lib.hid hat; have HA' := Lib.hid hat'; clear hx hy hat hat'
      have hlt' : k < y.2.1.length := by have := A1.out; omega
      have hi0 : (0 : Int) ≤ (k : Int) := by omega
      have hi1 : (k : Int) < (x.2.1.length : Int) := by omega
      have hi2 : (k : Int) < (y.2.1.length : Int) := by omega
      have nb : b ≠ wr.heap.size := by omega
      have nb' : b' ≠ wr.heap.size := by omega
      have RB := fun (w' : World) (h : More (wr.alloc (.cells #[.int .i64 a.1, .bool a.2.1, .int .i64 a.2.2.1.1.1, .int .i64 a.2.2.1.1.2, .int .i64 a.2.2.1.2.1, .int .i64 a.2.2.1.2.2, .slice p0a6 p0n6 p0c6, .slice p0a7 p0n7 p0c7, .slice p0a8 p0n8 p0c8, .slice p0a9 p0n9 p0c9, .slice p0a10 p0n10 p0c10] 69)) w') => HB w' (More.trans hmr (More.un h))
      have RN := fun (w' : World) (h : More (wr.alloc (.cells #[.int .i64 a.1, .bool a.2.1, .int .i64 a.2.2.1.1.1, .int .i64 a.2.2.1.1.2, .int .i64 a.2.2.1.2.1, .int .i64 a.2.2.1.2.2, .slice p0a6 p0n6 p0c6, .slice p0a7 p0n7 p0c7, .slice p0a8 p0n8 p0c8, .slice p0a9 p0n9 p0c9, .slice p0a10 p0n10 p0c10] 69)) w') => rbx11 (wr.heap.size) rfl h
      have RE := fun (w' : World) (h : More (wr.alloc (.cells #[.int .i64 a.1, .bool a.2.1, .int .i64 a.2.2.1.1.1, .int .i64 a.2.2.1.1.2, .int .i64 a.2.2.1.2.1, .int .i64 a.2.2.1.2.2, .slice p0a6 p0n6 p0c6, .slice p0a7 p0n7 p0c7, .slice p0a8 p0n8 p0c8, .slice p0a9 p0n9 p0c9, .slice p0a10 p0n10 p0c10] 69)) w') => And.intro (((bcell (More.un h)).1 _ _ hblt').trans d0_) (And.intro (((bcell (More.un h)).1 _ _ hblt').trans d1_) (And.intro (((bcell (More.un h)).1 _ _ hblt').trans d2_) (And.intro (((bcell (More.un h)).1 _ _ hblt').trans d3_) (And.intro (((bcell (More.un h)).1 _ _ hblt').trans d4_) (And.intro (((bcell (More.un h)).1 _ _ hblt').trans d5_) (And.intro (((bcell (More.un h)).1 _ _ hblt').trans d6_) (And.intro (((bcell (More.un h)).1 _ _ hblt').trans d7_) (And.intro (((bcell (More.un h)).1 _ _ hblt').trans d8_) (And.intro (((bcell (More.un h)).1 _ _ hblt').trans d9_) (((bcell (More.un h)).1 _ _ hblt').trans d10_))))))))))
      rcases Bool.eq_false_or_eq_true (decide (a = c)) with hd | hd
      rotate_left
      · have HD := Lib.hid hd
        go_wp2_with fail
        go_region_held3 (fun w' => More (wr.alloc (.cells #[.int .i64 a.1, .bool a.2.1, .int .i64 a.2.2.1.1.1, .int .i64 a.2.2.1.1.2, .int .i64 a.2.2.1.2.1, .int .i64 a.2.2.1.2.2, .slice p0a6 p0n6 p0c6, .slice p0a7 p0n7 p0c7, .slice p0a8 p0n8 p0c8, .slice p0a9 p0n9 p0c9, .slice p0a10 p0n10 p0c10] 69)) w') (first | exact More.refl _ | exact mC) (first | (go_at_call 30; (with_reducible refine (spec_SameSlice [.int .i64 a.1, .bool a.2.1, .int .i64 a.2.2.1.1.1, .int .i64 a.2.2.1.1.2, .int .i64 a.2.2.1.2.1, .int .i64 a.2.2.1.2.2, .slice p0a6 p0n6 p0c6, .slice p0a7 p0n7 p0c7, .slice p0a8 p0n8 p0c8, .slice p0a9 p0n9 p0c9, .slice p0a10 p0n10 p0c10] [.int .i64 c.1, .bool c.2.1, .int .i64 c.2.2.1.1.1, .int .i64 c.2.2.1.1.2, .int .i64 c.2.2.1.2.1, .int .i64 c.2.2.1.2.2, .slice q0a6 q0n6 q0c6, .slice q0a7 q0n7 q0c7, .slice q0a8 q0n8 q0c8, .slice q0a9 q0n9 q0c9, .slice q0a10 q0n10 q0c10] a c _ (Ty.at_more HA.out mC) (Ty.at_more HA'.out mC) (show wSlice a ≤ 1048576 by have := wsum_el (f := wSlice) HX_.out; have := HWXL0.out; unfold wSliceS at this; omega) (show wSlice c ≤ 1048576 by have := wsum_el (f := wSlice) HY_.out; have := HWYL0.out; unfold wSliceS at this; omega)).mono ?_); rintro e w1 ⟨rfl, hb1⟩; rw [hd]))
        all_goals
          go_wp2_with fail
          go_ret
          exact ⟨ret_bool (decide_eq_false (fun e => by
            have h1 := HX_.out; have h2 := HY_.out
            rw [e, h2] at h1
            obtain rfl := Option.some.inj h1
            simp at hd)).symm, More.trans HMW.out mC⟩
      have EQ : Hid (a = c) := Lib.hid (of_decide_eq_true hd)
      go_wp2_with fail
      go_region_held3 (fun w' => More (wr.alloc (.cells #[.int .i64 a.1, .bool a.2.1, .int .i64 a.2.2.1.1.1, .int .i64 a.2.2.1.1.2, .int .i64 a.2.2.1.2.1, .int .i64 a.2.2.1.2.2, .slice p0a6 p0n6 p0c6, .slice p0a7 p0n7 p0c7, .slice p0a8 p0n8 p0c8, .slice p0a9 p0n9 p0c9, .slice p0a10 p0n10 p0c10] 69)) w') (first | exact More.refl _ | exact mC) (first | (go_at_call 30; (with_reducible refine (spec_SameSlice [.int .i64 a.1, .bool a.2.1, .int .i64 a.2.2.1.1.1, .int .i64 a.2.2.1.1.2, .int .i64 a.2.2.1.2.1, .int .i64 a.2.2.1.2.2, .slice p0a6 p0n6 p0c6, .slice p0a7 p0n7 p0c7, .slice p0a8 p0n8 p0c8, .slice p0a9 p0n9 p0c9, .slice p0a10 p0n10 p0c10] [.int .i64 c.1, .bool c.2.1, .int .i64 c.2.2.1.1.1, .int .i64 c.2.2.1.1.2, .int .i64 c.2.2.1.2.1, .int .i64 c.2.2.1.2.2, .slice q0a6 q0n6 q0c6, .slice q0a7 q0n7 q0c7, .slice q0a8 q0n8 q0c8, .slice q0a9 q0n9 q0c9, .slice q0a10 q0n10 q0c10] a c _ (Ty.at_more HA.out mC) (Ty.at_more HA'.out mC) (show wSlice a ≤ 1048576 by have := wsum_el (f := wSlice) HX_.out; have := HWXL0.out; unfold wSliceS at this; omega) (show wSlice c ≤ 1048576 by have := wsum_el (f := wSlice) HY_.out; have := HWYL0.out; unfold wSliceS at this; omega)).mono ?_); rintro e w1 ⟨rfl, hb1⟩; rw [hd]))
      all_goals
        go_wp2_with fail
        go_roundw
        case rel => exact ⟨k + 1, by omega, by go_num, More.trans hmr mC, Lib.hid (fun j hj => by
          rcases Nat.lt_succ_iff_lt_or_eq.1 hj with h | rfl
          · exact HE.out j h
          · rw [HX_.out, HY_.out, EQ.out])⟩
        case measure => simp [intOf]; omega
    · have E0 : Hid (x.2.1 = y.2.1) := Lib.hid (el_ext rfl A1.out.symm (fun j hj => HE.out j (by omega)))
      go_wp2_with fail
      go_loopw [61] (fun i wr => ∃ k : Nat, k ≤ x.2.2.2.length ∧ i = .int .i64 k ∧ More ((w.alloc (.cells #[.int .i64 x.1.1.1, .int .i64 x.1.1.2, .int .i64 x.1.2.1.1, .int .i64 x.1.2.1.2, .slice x_0a2 x.1.2.2.1.length x_0c2, .slice x_0a3 x.1.2.2.2.1.length x_0c3, .slice x_0a4 x.1.2.2.2.2.length x_0c4, .slice x_a1 x.2.1.length x_c1, .slice x_a2 x.2.2.1.length x_c2, .slice x_a3 x.2.2.2.length x_c3] 80)).alloc (.cells #[.int .i64 y.1.1.1, .int .i64 y.1.1.2, .int .i64 y.1.2.1.1, .int .i64 y.1.2.1.2, .slice y_0a2 y.1.2.2.1.length y_0c2, .slice y_0a3 y.1.2.2.2.1.length y_0c3, .slice y_0a4 y.1.2.2.2.2.length y_0c4, .slice y_a1 y.2.1.length y_c1, .slice y_a2 y.2.2.1.length y_c2, .slice y_a3 y.2.2.2.length y_c3] 80)) wr ∧ Hid (∀ j, j < k → x.2.2.2[j]? = y.2.2.2[j]?)) (fun i _ => x.2.2.2.length - (intOf i).toNat)
      case atStart => exact ⟨0, Nat.zero_le _, rfl, HMB.out, Lib.hid (fun j hj => by omega)⟩
      case round =>
        try clear HMW HMB
        obtain ⟨k, hk, rfl, hmr, HE⟩ := hrel
        have HMW := Lib.hid (More.trans (show More w ((w.alloc (.cells #[.int .i64 x.1.1.1, .int .i64 x.1.1.2, .int .i64 x.1.2.1.1, .int .i64 x.1.2.1.2, .slice x_0a2 x.1.2.2.1.length x_0c2, .slice x_0a3 x.1.2.2.2.1.length x_0c3, .slice x_0a4 x.1.2.2.2.2.length x_0c4, .slice x_a1 x.2.1.length x_c1, .slice x_a2 x.2.2.1.length x_c2, .slice x_a3 x.2.2.2.length x_c3] 80)).alloc (.cells #[.int .i64 y.1.1.1, .int .i64 y.1.1.2, .int .i64 y.1.2.1.1, .int .i64 y.1.2.1.2, .slice y_0a2 y.1.2.2.1.length y_0c2, .slice y_0a3 y.1.2.2.2.1.length y_0c3, .slice y_0a4 y.1.2.2.2.2.length y_0c4, .slice y_a1 y.2.1.length y_c1, .slice y_a2 y.2.2.1.length y_c2, .slice y_a3 y.2.2.2.length y_c3] 80)) from mC) hmr)
        have HMB := Lib.hid hmr
        have HBw := HB _ hmr
        by_cases hlt : k < x.2.2.2.length
        · obtain ⟨b, off, a, p1a0, p1n0, p1c0, hadr, hblt, hx, hat, c0_⟩ := el_IntS (Ty.at_more FXL1.out HMW.out) (k := k) hlt
          obtain ⟨b', off', c, q1a0, q1n0, q1c0, hadr', hblt', hy, hat', d0_⟩ := el_IntS (Ty.at_more FYL1.out HMW.out) (k := k) (by rw [← A2.out]; exact hlt)
          subst hadr; subst hadr'
          have HX_ := Lib.hid hx; have HY_ := Lib.hid hy; have HA := Lib.hid hat; have HA' := Lib.hid hat'; clear hx hy hat hat'
          have hlt' : k < y.2.2.2.length := by have := A2.out; omega
          have hi0 : (0 : Int) ≤ (k : Int) := by omega
          have hi1 : (k : Int) < (x.2.2.2.length : Int) := by omega
          have hi2 : (k : Int) < (y.2.2.2.length : Int) := by omega
          rcases Bool.eq_false_or_eq_true (decide (a = c)) with hd | hd
          rotate_left
          · have HD := Lib.hid hd
            go_wp2_with fail
            refine (spec_l19Ints _ _ a c _ (Ty.at_more HA.out mC) (Ty.at_more HA'.out mC) (show wIntS a ≤ 1048576 by have := wsum_el (f := wIntS) HX_.out; have := HWXL1.out; unfold wIntSS at this; omega) (show wIntS c ≤ 1048576 by have := wsum_el (f := wIntS) HY_.out; have := HWYL1.out; unfold wIntSS at this; omega)).mono ?_
            rintro e w1 ⟨rfl, hb1⟩
            rw [hd]
            go_wp2_with fail
            go_ret
            exact ⟨ret_bool (decide_eq_false (fun e => by
              have h1 := HX_.out; have h2 := HY_.out
              rw [e, h2] at h1
              obtain rfl := Option.some.inj h1
              simp at hd)).symm, More.trans HMW.out mC⟩
          have EQ : Hid (a = c) := Lib.hid (of_decide_eq_true hd)
          go_wp2_with fail
          refine (spec_l19Ints _ _ a c _ (Ty.at_more HA.out mC) (Ty.at_more HA'.out mC) (show wIntS a ≤ 1048576 by have := wsum_el (f := wIntS) HX_.out; have := HWXL1.out; unfold wIntSS at this; omega) (show wIntS c ≤ 1048576 by have := wsum_el (f := wIntS) HY_.out; have := HWYL1.out; unfold wIntSS at this; omega)).mono ?_
          rintro e w1 ⟨rfl, hb1⟩
          rw [hd]
          go_wp2_with fail
          go_roundw
          case rel => exact ⟨k + 1, by omega, by go_num, More.trans hmr mC, Lib.hid (fun j hj => by
            rcases Nat.lt_succ_iff_lt_or_eq.1 hj with h | rfl
            · exact HE.out j h
            · rw [HX_.out, HY_.out, EQ.out])⟩
          case measure => simp [intOf]; omega
        · have E1 : Hid (x.2.2.2 = y.2.2.2) := Lib.hid (el_ext rfl A2.out.symm (fun j hj => HE.out j (by omega)))
          go_wp2_with fail
          go_ret
          exact ⟨ret_bool (decide_eq_true (Prod.ext (of_decide_eq_true A0.out) (Prod.ext E0.out (Prod.ext (of_decide_eq_true A3.out) E1.out)))).symm, HMW.out⟩
end Go.Proofs.Ytbbibfeblaocfaa
