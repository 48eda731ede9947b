/- eqScene: two values of this kind that read alike are equal. -/
import Derived.Test.YtnndjbomfcacfaaGEqS
import Derived.Test.YtnndjbomfcacfaaGVec
import Derived.Test.YtnndjbomfcacfaaGBase
import Derived.Deep.RegionHeld3
namespace Go.Proofs.Ytnndjbomfcacfaa
open Go.RowKit

set_option maxHeartbeats 3200000 in
theorem laws_eqScene (cs ds : List Value) (x : QScene) (w : World) (hv : tScene.at w cs x) (hv' : tScene.at w ds x) (hw : wScene x ≤ 1048576) :
    Calls Try.prog 11 #[.agg cs.toArray, .agg ds.toArray] w fun e w' => e = .returned (.bool true) ∧ More w w' := by
  have HW := Lib.hid hw; clear hw
  obtain ⟨k0, d0, rfl, f0, e0⟩ := at_prod hv
  obtain ⟨k1, d1, rfl, f1, e1⟩ := at_prod e0
  obtain ⟨k2, d2, rfl, f2, e2⟩ := at_prod e1
  obtain ⟨k3, d3, rfl, f3, e3⟩ := at_prod e2
  have f4 := e3; clear e3
  obtain rfl := sh_Vec f0
  have F0 := Lib.hid f0; clear f0
  obtain rfl := sh_Vec f1
  have F1 := Lib.hid f1; clear f1
  obtain ⟨z2a0, z2n0, z2c0, rfl⟩ := sh_slice f2
  have F2 := Lib.hid f2; clear f2
  obtain ⟨z3a0, z3n0, z3c0, rfl⟩ := sh_slice f3
  have F3 := Lib.hid f3; clear f3
  obtain ⟨z4a0, z4n0, z4c0, rfl⟩ := sh_slice f4
  have F4 := Lib.hid f4; clear f4
  obtain ⟨sk0, sd0, rfl, sf0, se0⟩ := at_prod hv'
  obtain ⟨sk1, sd1, rfl, sf1, se1⟩ := at_prod se0
  obtain ⟨sk2, sd2, rfl, sf2, se2⟩ := at_prod se1
  obtain ⟨sk3, sd3, rfl, sf3, se3⟩ := at_prod se2
  have sf4 := se3; clear se3
  obtain rfl := sh_Vec sf0
  have G0 := Lib.hid sf0; clear sf0
  obtain rfl := sh_Vec sf1
  have G1 := Lib.hid sf1; clear sf1
  obtain ⟨sz2a0, sz2n0, sz2c0, rfl⟩ := sh_slice sf2
  have G2 := Lib.hid sf2; clear sf2
  obtain ⟨sz3a0, sz3n0, sz3c0, rfl⟩ := sh_slice sf3
  have G3 := Lib.hid sf3; clear sf3
  obtain ⟨sz4a0, sz4n0, sz4c0, rfl⟩ := sh_slice sf4
  have G4 := Lib.hid sf4; clear sf4
  show Calls Try.prog 11 #[.agg #[.int .i64 x.1.1, .int .i64 x.1.2, .int .i64 x.2.1.1, .int .i64 x.2.1.2, .slice z2a0 z2n0 z2c0, .slice z3a0 z3n0 z3c0, .slice z4a0 z4n0 z4c0], .agg #[.int .i64 x.1.1, .int .i64 x.1.2, .int .i64 x.2.1.1, .int .i64 x.2.1.2, .slice sz2a0 sz2n0 sz2c0, .slice sz3a0 sz3n0 sz3c0, .slice sz4a0 sz4n0 sz4c0]] w _
  have HX : More ((w.alloc (.cells #[.int .i64 x.1.1, .int .i64 x.1.2, .int .i64 x.2.1.1, .int .i64 x.2.1.2, .slice z2a0 z2n0 z2c0, .slice z3a0 z3n0 z3c0, .slice z4a0 z4n0 z4c0] 34)).alloc (.cells #[.int .i64 x.1.1, .int .i64 x.1.2, .int .i64 x.2.1.1, .int .i64 x.2.1.2, .slice sz2a0 sz2n0 sz2c0, .slice sz3a0 sz3n0 sz3c0, .slice sz4a0 sz4n0 sz4c0] 34)) ((w.alloc (.cells #[.int .i64 x.1.1, .int .i64 x.1.2, .int .i64 x.2.1.1, .int .i64 x.2.1.2, .slice z2a0 z2n0 z2c0, .slice z3a0 z3n0 z3c0, .slice z4a0 z4n0 z4c0] 34)).alloc (.cells #[.int .i64 x.1.1, .int .i64 x.1.2, .int .i64 x.2.1.1, .int .i64 x.2.1.2, .slice sz2a0 sz2n0 sz2c0, .slice sz3a0 sz3n0 sz3c0, .slice sz4a0 sz4n0 sz4c0] 34)) := More.refl _
  have HB : ∀ w', More ((w.alloc (.cells #[.int .i64 x.1.1, .int .i64 x.1.2, .int .i64 x.2.1.1, .int .i64 x.2.1.2, .slice z2a0 z2n0 z2c0, .slice z3a0 z3n0 z3c0, .slice z4a0 z4n0 z4c0] 34)).alloc (.cells #[.int .i64 x.1.1, .int .i64 x.1.2, .int .i64 x.2.1.1, .int .i64 x.2.1.2, .slice sz2a0 sz2n0 sz2c0, .slice sz3a0 sz3n0 sz3c0, .slice sz4a0 sz4n0 sz4c0] 34)) w' → w'.cell? ⟨w.heap.size, 0, none⟩ = some (.int .i64 x.1.1) ∧ w'.cell? ⟨w.heap.size, 1, none⟩ = some (.int .i64 x.1.2) ∧ w'.cell? ⟨w.heap.size, 2, none⟩ = some (.int .i64 x.2.1.1) ∧ w'.cell? ⟨w.heap.size, 3, none⟩ = some (.int .i64 x.2.1.2) ∧ w'.cell? ⟨w.heap.size, 4, none⟩ = some (.slice z2a0 z2n0 z2c0) ∧ w'.cell? ⟨w.heap.size, 5, none⟩ = some (.slice z3a0 z3n0 z3c0) ∧ w'.cell? ⟨w.heap.size, 6, none⟩ = some (.slice z4a0 z4n0 z4c0) ∧ (∀ j, w'.frozen? ⟨w.heap.size, j, none⟩ = false) ∧ w'.cell? ⟨w.heap.size + 1, 0, none⟩ = some (.int .i64 x.1.1) ∧ w'.cell? ⟨w.heap.size + 1, 1, none⟩ = some (.int .i64 x.1.2) ∧ w'.cell? ⟨w.heap.size + 1, 2, none⟩ = some (.int .i64 x.2.1.1) ∧ w'.cell? ⟨w.heap.size + 1, 3, none⟩ = some (.int .i64 x.2.1.2) ∧ w'.cell? ⟨w.heap.size + 1, 4, none⟩ = some (.slice sz2a0 sz2n0 sz2c0) ∧ w'.cell? ⟨w.heap.size + 1, 5, none⟩ = some (.slice sz3a0 sz3n0 sz3c0) ∧ w'.cell? ⟨w.heap.size + 1, 6, none⟩ = some (.slice sz4a0 sz4n0 sz4c0) ∧ (∀ j, w'.frozen? ⟨w.heap.size + 1, j, none⟩ = false) := fun w' h => ⟨box_new (by simp) (More.un h) 0, box_new (by simp) (More.un h) 1, box_new (by simp) (More.un h) 2, box_new (by simp) (More.un h) 3, box_new (by simp) (More.un h) 4, box_new (by simp) (More.un h) 5, box_new (by simp) (More.un h) 6, fun j => box_free (by simp) (More.un h) j, box_new (by simp) h 0, box_new (by simp) h 1, box_new (by simp) h 2, box_new (by simp) h 3, box_new (by simp) h 4, box_new (by simp) h 5, box_new (by simp) h 6, fun j => box_free (by simp) h j⟩
  go_enter Try.func11, Try.ntmps11
  go_wp2_with fail
  refine (laws_eqVec _ _ _).mono ?_
  rintro e w1 ⟨rfl, hb1⟩; have HX : More ((w.alloc (.cells #[.int .i64 x.1.1, .int .i64 x.1.2, .int .i64 x.2.1.1, .int .i64 x.2.1.2, .slice z2a0 z2n0 z2c0, .slice z3a0 z3n0 z3c0, .slice z4a0 z4n0 z4c0] 34)).alloc (.cells #[.int .i64 x.1.1, .int .i64 x.1.2, .int .i64 x.2.1.1, .int .i64 x.2.1.2, .slice sz2a0 sz2n0 sz2c0, .slice sz3a0 sz3n0 sz3c0, .slice sz4a0 sz4n0 sz4c0] 34)) _ := More.trans (by assumption) hb1; have HBw := HB _ HX
  go_wp2_with fail
  refine (laws_eqVec _ _ _).mono ?_
  rintro e w2 ⟨rfl, hb1⟩; have HX : More ((w.alloc (.cells #[.int .i64 x.1.1, .int .i64 x.1.2, .int .i64 x.2.1.1, .int .i64 x.2.1.2, .slice z2a0 z2n0 z2c0, .slice z3a0 z3n0 z3c0, .slice z4a0 z4n0 z4c0] 34)).alloc (.cells #[.int .i64 x.1.1, .int .i64 x.1.2, .int .i64 x.2.1.1, .int .i64 x.2.1.2, .slice sz2a0 sz2n0 sz2c0, .slice sz3a0 sz3n0 sz3c0, .slice sz4a0 sz4n0 sz4c0] 34)) _ := More.trans (by assumption) hb1; have HBw := HB _ HX
  go_wp2_with fail
  refine (laws_eqVecS _ _ x.2.2.1 _ (Ty.at_more F2.out mC) (Ty.at_more G2.out mC) (by have := HW.out; unfold wScene wVecS at this; omega)).mono ?_
  rintro e w3 ⟨rfl, hb1⟩; have HX : More ((w.alloc (.cells #[.int .i64 x.1.1, .int .i64 x.1.2, .int .i64 x.2.1.1, .int .i64 x.2.1.2, .slice z2a0 z2n0 z2c0, .slice z3a0 z3n0 z3c0, .slice z4a0 z4n0 z4c0] 34)).alloc (.cells #[.int .i64 x.1.1, .int .i64 x.1.2, .int .i64 x.2.1.1, .int .i64 x.2.1.2, .slice sz2a0 sz2n0 sz2c0, .slice sz3a0 sz3n0 sz3c0, .slice sz4a0 sz4n0 sz4c0] 34)) _ := More.trans (by assumption) hb1; have HBw := HB _ HX
  go_wp2_with fail
  refine (laws_eqVecSS _ _ x.2.2.2.1 _ (Ty.at_more F3.out mC) (Ty.at_more G3.out mC) (by have := HW.out; unfold wScene  at this; omega)).mono ?_
  rintro e w4 ⟨rfl, hb1⟩; have HX : More ((w.alloc (.cells #[.int .i64 x.1.1, .int .i64 x.1.2, .int .i64 x.2.1.1, .int .i64 x.2.1.2, .slice z2a0 z2n0 z2c0, .slice z3a0 z3n0 z3c0, .slice z4a0 z4n0 z4c0] 34)).alloc (.cells #[.int .i64 x.1.1, .int .i64 x.1.2, .int .i64 x.2.1.1, .int .i64 x.2.1.2, .slice sz2a0 sz2n0 sz2c0, .slice sz3a0 sz3n0 sz3c0, .slice sz4a0 sz4n0 sz4c0] 34)) _ := More.trans (by assumption) hb1; have HBw := HB _ HX
  go_wp2_with fail
  refine (laws_eqVecS _ _ x.2.2.2.2 _ (Ty.at_more F4.out mC) (Ty.at_more G4.out mC) (by have := HW.out; unfold wScene wVecS at this; omega)).mono ?_
  rintro e w5 ⟨rfl, hb1⟩; have HX : More ((w.alloc (.cells #[.int .i64 x.1.1, .int .i64 x.1.2, .int .i64 x.2.1.1, .int .i64 x.2.1.2, .slice z2a0 z2n0 z2c0, .slice z3a0 z3n0 z3c0, .slice z4a0 z4n0 z4c0] 34)).alloc (.cells #[.int .i64 x.1.1, .int .i64 x.1.2, .int .i64 x.2.1.1, .int .i64 x.2.1.2, .slice sz2a0 sz2n0 sz2c0, .slice sz3a0 sz3n0 sz3c0, .slice sz4a0 sz4n0 sz4c0] 34)) _ := More.trans (by assumption) hb1; have HBw := HB _ HX
  go_wp2_with fail
  go_ret
  exact ⟨rfl, mC⟩
end Go.Proofs.Ytnndjbomfcacfaa
