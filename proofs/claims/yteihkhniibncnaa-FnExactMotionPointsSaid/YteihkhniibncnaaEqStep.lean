/- eqStep: two values of this kind that read alike are equal. -/
import Derived.Test.YteihkhniibncnaaEqPoint
import Derived.Test.YteihkhniibncnaaGVec
import Derived.Test.YteihkhniibncnaaGBase
import Derived.Deep.RegionHeld3
namespace Go.Proofs.Yteihkhniibncnaa
open Go.RowKit

set_option maxHeartbeats 3200000 in
theorem laws_eqStep (cs ds : List Value) (x : QStep) (w : World) (hv : tStep.at w cs x) (hv' : tStep.at w ds x) (hw : wStep x ≤ 1048576) :
    Calls Try.prog 72 #[.agg cs.toArray, .agg ds.toArray] w fun e w' => e = .returned (.bool true) ∧ More w w' := by
  have HW := Lib.hid hw; clear hw
  obtain ⟨k0, d0, rfl, f0, e0⟩ := at_prod hv
  have f1 := e0; clear e0
  obtain rfl := sh_int f0
  have F0 := Lib.hid f0; clear f0
  obtain ⟨z1a1, z1n1, z1c1, z1a2, z1n2, z1c2, z1a4, z1n4, z1c4, z1a5, z1n5, z1c5, rfl⟩ := sh_Point f1
  have F1 := Lib.hid f1; clear f1
  obtain ⟨sk0, sd0, rfl, sf0, se0⟩ := at_prod hv'
  have sf1 := se0; clear se0
  obtain rfl := sh_int sf0
  have G0 := Lib.hid sf0; clear sf0
  obtain ⟨sz1a1, sz1n1, sz1c1, sz1a2, sz1n2, sz1c2, sz1a4, sz1n4, sz1c4, sz1a5, sz1n5, sz1c5, rfl⟩ := sh_Point sf1
  have G1 := Lib.hid sf1; clear sf1
  show Calls Try.prog 72 #[.agg #[.int .i64 x.1, .bool x.2.1.1.1, .slice z1a1 z1n1 z1c1, .slice z1a2 z1n2 z1c2, .bool x.2.2.1.1, .slice z1a4 z1n4 z1c4, .slice z1a5 z1n5 z1c5], .agg #[.int .i64 x.1, .bool x.2.1.1.1, .slice sz1a1 sz1n1 sz1c1, .slice sz1a2 sz1n2 sz1c2, .bool x.2.2.1.1, .slice sz1a4 sz1n4 sz1c4, .slice sz1a5 sz1n5 sz1c5]] w _
  have HX : More ((w.alloc (.cells #[.int .i64 x.1, .bool x.2.1.1.1, .slice z1a1 z1n1 z1c1, .slice z1a2 z1n2 z1c2, .bool x.2.2.1.1, .slice z1a4 z1n4 z1c4, .slice z1a5 z1n5 z1c5] 113)).alloc (.cells #[.int .i64 x.1, .bool x.2.1.1.1, .slice sz1a1 sz1n1 sz1c1, .slice sz1a2 sz1n2 sz1c2, .bool x.2.2.1.1, .slice sz1a4 sz1n4 sz1c4, .slice sz1a5 sz1n5 sz1c5] 113)) ((w.alloc (.cells #[.int .i64 x.1, .bool x.2.1.1.1, .slice z1a1 z1n1 z1c1, .slice z1a2 z1n2 z1c2, .bool x.2.2.1.1, .slice z1a4 z1n4 z1c4, .slice z1a5 z1n5 z1c5] 113)).alloc (.cells #[.int .i64 x.1, .bool x.2.1.1.1, .slice sz1a1 sz1n1 sz1c1, .slice sz1a2 sz1n2 sz1c2, .bool x.2.2.1.1, .slice sz1a4 sz1n4 sz1c4, .slice sz1a5 sz1n5 sz1c5] 113)) := More.refl _
  have HB : ∀ w', More ((w.alloc (.cells #[.int .i64 x.1, .bool x.2.1.1.1, .slice z1a1 z1n1 z1c1, .slice z1a2 z1n2 z1c2, .bool x.2.2.1.1, .slice z1a4 z1n4 z1c4, .slice z1a5 z1n5 z1c5] 113)).alloc (.cells #[.int .i64 x.1, .bool x.2.1.1.1, .slice sz1a1 sz1n1 sz1c1, .slice sz1a2 sz1n2 sz1c2, .bool x.2.2.1.1, .slice sz1a4 sz1n4 sz1c4, .slice sz1a5 sz1n5 sz1c5] 113)) w' → w'.cell? ⟨w.heap.size, 0, none⟩ = some (.int .i64 x.1) ∧ w'.cell? ⟨w.heap.size, 1, none⟩ = some (.bool x.2.1.1.1) ∧ w'.cell? ⟨w.heap.size, 2, none⟩ = some (.slice z1a1 z1n1 z1c1) ∧ w'.cell? ⟨w.heap.size, 3, none⟩ = some (.slice z1a2 z1n2 z1c2) ∧ w'.cell? ⟨w.heap.size, 4, none⟩ = some (.bool x.2.2.1.1) ∧ w'.cell? ⟨w.heap.size, 5, none⟩ = some (.slice z1a4 z1n4 z1c4) ∧ w'.cell? ⟨w.heap.size, 6, none⟩ = some (.slice z1a5 z1n5 z1c5) ∧ (∀ j, w'.frozen? ⟨w.heap.size, j, none⟩ = false) ∧ w'.cell? ⟨w.heap.size + 1, 0, none⟩ = some (.int .i64 x.1) ∧ w'.cell? ⟨w.heap.size + 1, 1, none⟩ = some (.bool x.2.1.1.1) ∧ w'.cell? ⟨w.heap.size + 1, 2, none⟩ = some (.slice sz1a1 sz1n1 sz1c1) ∧ w'.cell? ⟨w.heap.size + 1, 3, none⟩ = some (.slice sz1a2 sz1n2 sz1c2) ∧ w'.cell? ⟨w.heap.size + 1, 4, none⟩ = some (.bool x.2.2.1.1) ∧ w'.cell? ⟨w.heap.size + 1, 5, none⟩ = some (.slice sz1a4 sz1n4 sz1c4) ∧ w'.cell? ⟨w.heap.size + 1, 6, none⟩ = some (.slice sz1a5 sz1n5 sz1c5) ∧ (∀ j, w'.frozen? ⟨w.heap.size + 1, j, none⟩ = false) := fun w' h => ⟨box_new (by simp) (More.un h) 0, box_new (by simp) (More.un h) 1, box_new (by simp) (More.un h) 2, box_new (by simp) (More.un h) 3, box_new (by simp) (More.un h) 4, box_new (by simp) (More.un h) 5, box_new (by simp) (More.un h) 6, fun j => box_free (by simp) (More.un h) j, box_new (by simp) h 0, box_new (by simp) h 1, box_new (by simp) h 2, box_new (by simp) h 3, box_new (by simp) h 4, box_new (by simp) h 5, box_new (by simp) h 6, fun j => box_free (by simp) h j⟩
  go_enter Try.func72, Try.ntmps72
  go_wp2_with fail
  refine (laws_eqPoint _ _ x.2 _ (Ty.at_more F1.out mC) (Ty.at_more G1.out mC) (by have := HW.out; unfold wStep  at this; omega)).mono ?_
  rintro e w2 ⟨rfl, hb1⟩; have HX : More ((w.alloc (.cells #[.int .i64 x.1, .bool x.2.1.1.1, .slice z1a1 z1n1 z1c1, .slice z1a2 z1n2 z1c2, .bool x.2.2.1.1, .slice z1a4 z1n4 z1c4, .slice z1a5 z1n5 z1c5] 113)).alloc (.cells #[.int .i64 x.1, .bool x.2.1.1.1, .slice sz1a1 sz1n1 sz1c1, .slice sz1a2 sz1n2 sz1c2, .bool x.2.2.1.1, .slice sz1a4 sz1n4 sz1c4, .slice sz1a5 sz1n5 sz1c5] 113)) _ := More.trans (by assumption) hb1; have HBw := HB _ HX
  go_wp2_with fail
  go_ret
  exact ⟨rfl, mC⟩
end Go.Proofs.Yteihkhniibncnaa
