/- szRoad: how much of the room a value of this kind takes. -/
import Derived.Test.YtbbibfeblaocfaaSzScene
import Derived.Test.YtbbibfeblaocfaaSzSliceS
import Derived.Test.YtbbibfeblaocfaaGHelp
import Derived.Test.YtbbibfeblaocfaaSzIntSS
import Derived.Test.YtbbibfeblaocfaaGBase
import Derived.Test.YtbbibfeblaocfaaGVec
import Derived.Deep.RegionHeld3
namespace Go.Proofs.Ytbbibfeblaocfaa
open Go.RowKit

set_option maxHeartbeats 1600000 in
theorem laws_szRoad (cs : List Value) (x : QRoad) (left : Int) (w : World) (hv : tRoad.at w cs x) (h0 : 0 ≤ left) (h1 : left ≤ 1048576) :
    Calls Try.prog 34 #[.agg cs.toArray, .int .i64 left] w fun e w' => e = .returned (.int .i64 (szI (wRoad x) left)) ∧ More w w' := by
  obtain ⟨k0, d0, rfl, f0, e0⟩ := at_prod hv
  obtain ⟨k1, d1, rfl, f1, e1⟩ := at_prod e0
  obtain ⟨k2, d2, rfl, f2, e2⟩ := at_prod e1
  have f3 := e2; clear e2
  obtain ⟨z0a4, z0n4, z0c4, z0a5, z0n5, z0c5, z0a6, z0n6, z0c6, rfl⟩ := sh_Scene f0
  have F0 := Lib.hid f0; clear f0
  obtain ⟨z1a0, z1n0, z1c0, rfl⟩ := sh_slice f1
  have F1 := Lib.hid f1; clear f1
  obtain ⟨z2a0, z2n0, z2c0, rfl⟩ := sh_slice f2
  have F2 := Lib.hid f2; clear f2
  obtain ⟨z3a0, z3n0, z3c0, rfl⟩ := sh_slice f3
  have F3 := Lib.hid f3; clear f3
  show Calls Try.prog 34 #[.agg #[.int .i64 x.1.1.1, .int .i64 x.1.1.2, .int .i64 x.1.2.1.1, .int .i64 x.1.2.1.2, .slice z0a4 z0n4 z0c4, .slice z0a5 z0n5 z0c5, .slice z0a6 z0n6 z0c6, .slice z1a0 z1n0 z1c0, .slice z2a0 z2n0 z2c0, .slice z3a0 z3n0 z3c0], .int .i64 left] w _
  have HX : More (w.alloc (.cells #[.int .i64 x.1.1.1, .int .i64 x.1.1.2, .int .i64 x.1.2.1.1, .int .i64 x.1.2.1.2, .slice z0a4 z0n4 z0c4, .slice z0a5 z0n5 z0c5, .slice z0a6 z0n6 z0c6, .slice z1a0 z1n0 z1c0, .slice z2a0 z2n0 z2c0, .slice z3a0 z3n0 z3c0] 75)) (w.alloc (.cells #[.int .i64 x.1.1.1, .int .i64 x.1.1.2, .int .i64 x.1.2.1.1, .int .i64 x.1.2.1.2, .slice z0a4 z0n4 z0c4, .slice z0a5 z0n5 z0c5, .slice z0a6 z0n6 z0c6, .slice z1a0 z1n0 z1c0, .slice z2a0 z2n0 z2c0, .slice z3a0 z3n0 z3c0] 75)) := More.refl _
  have HB : ∀ w', More (w.alloc (.cells #[.int .i64 x.1.1.1, .int .i64 x.1.1.2, .int .i64 x.1.2.1.1, .int .i64 x.1.2.1.2, .slice z0a4 z0n4 z0c4, .slice z0a5 z0n5 z0c5, .slice z0a6 z0n6 z0c6, .slice z1a0 z1n0 z1c0, .slice z2a0 z2n0 z2c0, .slice z3a0 z3n0 z3c0] 75)) w' → w'.cell? ⟨w.heap.size, 0, none⟩ = some (.int .i64 x.1.1.1) ∧ w'.cell? ⟨w.heap.size, 1, none⟩ = some (.int .i64 x.1.1.2) ∧ w'.cell? ⟨w.heap.size, 2, none⟩ = some (.int .i64 x.1.2.1.1) ∧ w'.cell? ⟨w.heap.size, 3, none⟩ = some (.int .i64 x.1.2.1.2) ∧ w'.cell? ⟨w.heap.size, 4, none⟩ = some (.slice z0a4 z0n4 z0c4) ∧ w'.cell? ⟨w.heap.size, 5, none⟩ = some (.slice z0a5 z0n5 z0c5) ∧ w'.cell? ⟨w.heap.size, 6, none⟩ = some (.slice z0a6 z0n6 z0c6) ∧ w'.cell? ⟨w.heap.size, 7, none⟩ = some (.slice z1a0 z1n0 z1c0) ∧ w'.cell? ⟨w.heap.size, 8, none⟩ = some (.slice z2a0 z2n0 z2c0) ∧ w'.cell? ⟨w.heap.size, 9, none⟩ = some (.slice z3a0 z3n0 z3c0) ∧ (∀ j, w'.frozen? ⟨w.heap.size, j, none⟩ = false) := fun w' h => ⟨box_new (by simp) h 0, box_new (by simp) h 1, box_new (by simp) h 2, box_new (by simp) h 3, box_new (by simp) h 4, box_new (by simp) h 5, box_new (by simp) h 6, box_new (by simp) h 7, box_new (by simp) h 8, box_new (by simp) h 9, fun j => box_free (by simp) h j⟩
  go_enter Try.func34, Try.ntmps34
  go_wp2_with fail
  refine (laws_szScene _ x.1 _ _ (Ty.at_more F0.out mC) (by omega) (by omega)).mono ?_
  rintro e w1 ⟨rfl, hb1⟩; have HX : More (w.alloc (.cells #[.int .i64 x.1.1.1, .int .i64 x.1.1.2, .int .i64 x.1.2.1.1, .int .i64 x.1.2.1.2, .slice z0a4 z0n4 z0c4, .slice z0a5 z0n5 z0c5, .slice z0a6 z0n6 z0c6, .slice z1a0 z1n0 z1c0, .slice z2a0 z2n0 z2c0, .slice z3a0 z3n0 z3c0] 75)) _ := More.trans (by assumption) hb1; have HBw := HB _ HX
  by_cases k0 : ((wScene x.1 : Nat) : Int) ≤ left
  rotate_left
  · rw [szI_neg k0]; go_wp2_with fail; go_ret; exact ⟨ret_int (szI_neg (by unfold wRoad; omega)).symm, mC⟩
  rw [szI_pos k0]
  have g0 : 0 ≤ left - (wScene x.1 : Nat) := by omega
  go_wp2_with fail
  refine (laws_szSliceS _ x.2.1 _ _ (Ty.at_more F1.out mC) (by omega) (by omega)).mono ?_
  rintro e w2 ⟨rfl, hb1⟩; have HX : More (w.alloc (.cells #[.int .i64 x.1.1.1, .int .i64 x.1.1.2, .int .i64 x.1.2.1.1, .int .i64 x.1.2.1.2, .slice z0a4 z0n4 z0c4, .slice z0a5 z0n5 z0c5, .slice z0a6 z0n6 z0c6, .slice z1a0 z1n0 z1c0, .slice z2a0 z2n0 z2c0, .slice z3a0 z3n0 z3c0] 75)) _ := More.trans (by assumption) hb1; have HBw := HB _ HX
  by_cases k1 : ((wSliceS x.2.1 : Nat) : Int) ≤ left - (wScene x.1 : Nat)
  rotate_left
  · rw [szI_neg k1]; go_wp2_with fail; go_ret; exact ⟨ret_int (szI_neg (by unfold wRoad; omega)).symm, mC⟩
  rw [szI_pos k1]
  have g1 : 0 ≤ left - (wScene x.1 : Nat) - (wSliceS x.2.1 : Nat) := by omega
  go_wp2_with fail
  refine (laws_szIntS _ x.2.2.1 _ _ (Ty.at_more F2.out mC) (by omega) (by omega)).mono ?_
  rintro e w3 ⟨rfl, hb1⟩; have HX : More (w.alloc (.cells #[.int .i64 x.1.1.1, .int .i64 x.1.1.2, .int .i64 x.1.2.1.1, .int .i64 x.1.2.1.2, .slice z0a4 z0n4 z0c4, .slice z0a5 z0n5 z0c5, .slice z0a6 z0n6 z0c6, .slice z1a0 z1n0 z1c0, .slice z2a0 z2n0 z2c0, .slice z3a0 z3n0 z3c0] 75)) _ := More.trans (by assumption) hb1; have HBw := HB _ HX
  by_cases k2 : ((wIntS x.2.2.1 : Nat) : Int) ≤ left - (wScene x.1 : Nat) - (wSliceS x.2.1 : Nat)
  rotate_left
  · rw [szI_neg k2]; go_wp2_with fail; go_ret; exact ⟨ret_int (szI_neg (by unfold wRoad; omega)).symm, mC⟩
  rw [szI_pos k2]
  have g2 : 0 ≤ left - (wScene x.1 : Nat) - (wSliceS x.2.1 : Nat) - (wIntS x.2.2.1 : Nat) := by omega
  go_wp2_with fail
  refine (laws_szIntSS _ x.2.2.2 _ _ (Ty.at_more F3.out mC) (by omega) (by omega)).mono ?_
  rintro e w4 ⟨rfl, hb1⟩; have HX : More (w.alloc (.cells #[.int .i64 x.1.1.1, .int .i64 x.1.1.2, .int .i64 x.1.2.1.1, .int .i64 x.1.2.1.2, .slice z0a4 z0n4 z0c4, .slice z0a5 z0n5 z0c5, .slice z0a6 z0n6 z0c6, .slice z1a0 z1n0 z1c0, .slice z2a0 z2n0 z2c0, .slice z3a0 z3n0 z3c0] 75)) _ := More.trans (by assumption) hb1; have HBw := HB _ HX
  by_cases k3 : ((wIntSS x.2.2.2 : Nat) : Int) ≤ left - (wScene x.1 : Nat) - (wSliceS x.2.1 : Nat) - (wIntS x.2.2.1 : Nat)
  rotate_left
  · rw [szI_neg k3]; go_wp2_with fail; go_ret; exact ⟨ret_int (szI_neg (by unfold wRoad; omega)).symm, mC⟩
  rw [szI_pos k3]
  have g3 : 0 ≤ left - (wScene x.1 : Nat) - (wSliceS x.2.1 : Nat) - (wIntS x.2.2.1 : Nat) - (wIntSS x.2.2.2 : Nat) := by omega
  go_wp2_with fail
  go_ret
  exact ⟨ret_int (by rw [szI_pos (by unfold wRoad; omega)]; unfold wRoad; omega), mC⟩
end Go.Proofs.Ytbbibfeblaocfaa
