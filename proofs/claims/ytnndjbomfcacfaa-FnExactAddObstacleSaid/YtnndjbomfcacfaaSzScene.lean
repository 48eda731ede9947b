/- szScene: how much of the room a value of this kind takes. -/
import Derived.Test.YtnndjbomfcacfaaGSzS
import Derived.Test.YtnndjbomfcacfaaGBase
import Derived.Test.YtnndjbomfcacfaaGVec
import Derived.Deep.RegionHeld3
namespace Go.Proofs.Ytnndjbomfcacfaa
open Go.RowKit

set_option maxHeartbeats 1600000 in
theorem laws_szScene (cs : List Value) (x : QScene) (left : Int) (w : World) (hv : tScene.at w cs x) (h0 : 0 ≤ left) (h1 : left ≤ 1048576) :
    Calls Try.prog 5 #[.agg cs.toArray, .int .i64 left] w fun e w' => e = .returned (.int .i64 (szI (wScene x) left)) ∧ More w w' := by
  obtain ⟨k0, d0, rfl, f0, e0⟩ := at_prod hv
  obtain ⟨k1, d1, rfl, f1, e1⟩ := at_prod e0
  obtain ⟨k2, d2, rfl, f2, e2⟩ := at_prod e1
  obtain ⟨k3, d3, rfl, f3, e3⟩ := at_prod e2
  have f4 := e3; clear e3
  obtain rfl := sh_Vec f0
  have F0 := Lib.hid f0; clear f0
  obtain rfl := sh_Vec f1
  have F1 := Lib.hid f1; clear f1
  obtain ⟨z2a0, z2n0, z2c0, rfl⟩ := sh_slice f2
  have F2 := Lib.hid f2; clear f2
  obtain ⟨z3a0, z3n0, z3c0, rfl⟩ := sh_slice f3
  have F3 := Lib.hid f3; clear f3
  obtain ⟨z4a0, z4n0, z4c0, rfl⟩ := sh_slice f4
  have F4 := Lib.hid f4; clear f4
  show Calls Try.prog 5 #[.agg #[.int .i64 x.1.1, .int .i64 x.1.2, .int .i64 x.2.1.1, .int .i64 x.2.1.2, .slice z2a0 z2n0 z2c0, .slice z3a0 z3n0 z3c0, .slice z4a0 z4n0 z4c0], .int .i64 left] w _
  have HX : More (w.alloc (.cells #[.int .i64 x.1.1, .int .i64 x.1.2, .int .i64 x.2.1.1, .int .i64 x.2.1.2, .slice z2a0 z2n0 z2c0, .slice z3a0 z3n0 z3c0, .slice z4a0 z4n0 z4c0] 27)) (w.alloc (.cells #[.int .i64 x.1.1, .int .i64 x.1.2, .int .i64 x.2.1.1, .int .i64 x.2.1.2, .slice z2a0 z2n0 z2c0, .slice z3a0 z3n0 z3c0, .slice z4a0 z4n0 z4c0] 27)) := More.refl _
  have HB : ∀ w', More (w.alloc (.cells #[.int .i64 x.1.1, .int .i64 x.1.2, .int .i64 x.2.1.1, .int .i64 x.2.1.2, .slice z2a0 z2n0 z2c0, .slice z3a0 z3n0 z3c0, .slice z4a0 z4n0 z4c0] 27)) w' → w'.cell? ⟨w.heap.size, 0, none⟩ = some (.int .i64 x.1.1) ∧ w'.cell? ⟨w.heap.size, 1, none⟩ = some (.int .i64 x.1.2) ∧ w'.cell? ⟨w.heap.size, 2, none⟩ = some (.int .i64 x.2.1.1) ∧ w'.cell? ⟨w.heap.size, 3, none⟩ = some (.int .i64 x.2.1.2) ∧ w'.cell? ⟨w.heap.size, 4, none⟩ = some (.slice z2a0 z2n0 z2c0) ∧ w'.cell? ⟨w.heap.size, 5, none⟩ = some (.slice z3a0 z3n0 z3c0) ∧ w'.cell? ⟨w.heap.size, 6, none⟩ = some (.slice z4a0 z4n0 z4c0) ∧ (∀ j, w'.frozen? ⟨w.heap.size, j, none⟩ = false) := fun w' h => ⟨box_new (by simp) h 0, box_new (by simp) h 1, box_new (by simp) h 2, box_new (by simp) h 3, box_new (by simp) h 4, box_new (by simp) h 5, box_new (by simp) h 6, fun j => box_free (by simp) h j⟩
  go_enter Try.func5, Try.ntmps5
  go_wp2_with fail
  refine (laws_szVecS' _ x.2.2.1 _ _ (Ty.at_more F2.out mC) (by omega) (by omega)).mono ?_
  rintro e w1 ⟨rfl, hb1⟩; have HX : More (w.alloc (.cells #[.int .i64 x.1.1, .int .i64 x.1.2, .int .i64 x.2.1.1, .int .i64 x.2.1.2, .slice z2a0 z2n0 z2c0, .slice z3a0 z3n0 z3c0, .slice z4a0 z4n0 z4c0] 27)) _ := More.trans (by assumption) hb1; have HBw := HB _ HX
  by_cases k0 : ((wVecS x.2.2.1 : Nat) : Int) ≤ left
  rotate_left
  · rw [szI_neg k0]; go_wp2_with fail; go_ret; exact ⟨ret_int (szI_neg (by unfold wScene; omega)).symm, mC⟩
  rw [szI_pos k0]
  have g0 : 0 ≤ left - (wVecS x.2.2.1 : Nat) := by omega
  go_wp2_with fail
  refine (laws_szVecSS _ x.2.2.2.1 _ _ (Ty.at_more F3.out mC) (by omega) (by omega)).mono ?_
  rintro e w2 ⟨rfl, hb1⟩; have HX : More (w.alloc (.cells #[.int .i64 x.1.1, .int .i64 x.1.2, .int .i64 x.2.1.1, .int .i64 x.2.1.2, .slice z2a0 z2n0 z2c0, .slice z3a0 z3n0 z3c0, .slice z4a0 z4n0 z4c0] 27)) _ := More.trans (by assumption) hb1; have HBw := HB _ HX
  by_cases k1 : ((wVecSS x.2.2.2.1 : Nat) : Int) ≤ left - (wVecS x.2.2.1 : Nat)
  rotate_left
  · rw [szI_neg k1]; go_wp2_with fail; go_ret; exact ⟨ret_int (szI_neg (by unfold wScene; omega)).symm, mC⟩
  rw [szI_pos k1]
  have g1 : 0 ≤ left - (wVecS x.2.2.1 : Nat) - (wVecSS x.2.2.2.1 : Nat) := by omega
  go_wp2_with fail
  refine (laws_szVecS' _ x.2.2.2.2 _ _ (Ty.at_more F4.out mC) (by omega) (by omega)).mono ?_
  rintro e w3 ⟨rfl, hb1⟩; have HX : More (w.alloc (.cells #[.int .i64 x.1.1, .int .i64 x.1.2, .int .i64 x.2.1.1, .int .i64 x.2.1.2, .slice z2a0 z2n0 z2c0, .slice z3a0 z3n0 z3c0, .slice z4a0 z4n0 z4c0] 27)) _ := More.trans (by assumption) hb1; have HBw := HB _ HX
  by_cases k2 : ((wVecS x.2.2.2.2 : Nat) : Int) ≤ left - (wVecS x.2.2.1 : Nat) - (wVecSS x.2.2.2.1 : Nat)
  rotate_left
  · rw [szI_neg k2]; go_wp2_with fail; go_ret; exact ⟨ret_int (szI_neg (by unfold wScene; omega)).symm, mC⟩
  rw [szI_pos k2]
  have g2 : 0 ≤ left - (wVecS x.2.2.1 : Nat) - (wVecSS x.2.2.2.1 : Nat) - (wVecS x.2.2.2.2 : Nat) := by omega
  go_wp2_with fail
  go_ret
  exact ⟨ret_int (by rw [szI_pos (by unfold wScene; omega)]; unfold wScene; omega), mC⟩
end Go.Proofs.Ytnndjbomfcacfaa
