/- eqPoint: two values of this kind that read alike are equal. -/
import Derived.Test.YtnbefpfijaimjaaGreatDoorGHelp
import Derived.Test.YtnbefpfijaimjaaGreatDoorGVec
import Derived.Test.YtnbefpfijaimjaaGreatDoorGBase
import Derived.Deep.RegionHeld3
namespace Go.Proofs.YtnbefpfijaimjaaGreatDoor
open Go.RowKit

set_option maxHeartbeats 3200000 in
theorem laws_eqPoint (cs ds : List Value) (x : QP) (w : World) (hv : tPoint.at w cs x) (hv' : tPoint.at w ds x) (hw : wPoint x ≤ 1048576) :
    Calls Tryz.prog 7 #[.agg cs.toArray, .agg ds.toArray] w fun e w' => e = .returned (.bool true) ∧ More w w' := by
  have HW := Lib.hid hw; clear hw
  obtain ⟨k0, d0, rfl, f0, e0⟩ := at_prod hv
  have f1 := e0; clear e0
  obtain ⟨z0a1, z0n1, z0c1, z0a2, z0n2, z0c2, rfl⟩ := sh_Rat f0
  have F0 := Lib.hid f0; clear f0
  obtain ⟨z1a1, z1n1, z1c1, z1a2, z1n2, z1c2, rfl⟩ := sh_Rat f1
  have F1 := Lib.hid f1; clear f1
  obtain ⟨sk0, sd0, rfl, sf0, se0⟩ := at_prod hv'
  have sf1 := se0; clear se0
  obtain ⟨sz0a1, sz0n1, sz0c1, sz0a2, sz0n2, sz0c2, rfl⟩ := sh_Rat sf0
  have G0 := Lib.hid sf0; clear sf0
  obtain ⟨sz1a1, sz1n1, sz1c1, sz1a2, sz1n2, sz1c2, rfl⟩ := sh_Rat sf1
  have G1 := Lib.hid sf1; clear sf1
  show Calls Tryz.prog 7 #[.agg #[.bool x.1.1.1, .slice z0a1 z0n1 z0c1, .slice z0a2 z0n2 z0c2, .bool x.2.1.1, .slice z1a1 z1n1 z1c1, .slice z1a2 z1n2 z1c2], .agg #[.bool x.1.1.1, .slice sz0a1 sz0n1 sz0c1, .slice sz0a2 sz0n2 sz0c2, .bool x.2.1.1, .slice sz1a1 sz1n1 sz1c1, .slice sz1a2 sz1n2 sz1c2]] w _
  have HX : More ((w.alloc (.cells #[.bool x.1.1.1, .slice z0a1 z0n1 z0c1, .slice z0a2 z0n2 z0c2, .bool x.2.1.1, .slice z1a1 z1n1 z1c1, .slice z1a2 z1n2 z1c2] 28)).alloc (.cells #[.bool x.1.1.1, .slice sz0a1 sz0n1 sz0c1, .slice sz0a2 sz0n2 sz0c2, .bool x.2.1.1, .slice sz1a1 sz1n1 sz1c1, .slice sz1a2 sz1n2 sz1c2] 28)) ((w.alloc (.cells #[.bool x.1.1.1, .slice z0a1 z0n1 z0c1, .slice z0a2 z0n2 z0c2, .bool x.2.1.1, .slice z1a1 z1n1 z1c1, .slice z1a2 z1n2 z1c2] 28)).alloc (.cells #[.bool x.1.1.1, .slice sz0a1 sz0n1 sz0c1, .slice sz0a2 sz0n2 sz0c2, .bool x.2.1.1, .slice sz1a1 sz1n1 sz1c1, .slice sz1a2 sz1n2 sz1c2] 28)) := More.refl _
  have HB : ∀ w', More ((w.alloc (.cells #[.bool x.1.1.1, .slice z0a1 z0n1 z0c1, .slice z0a2 z0n2 z0c2, .bool x.2.1.1, .slice z1a1 z1n1 z1c1, .slice z1a2 z1n2 z1c2] 28)).alloc (.cells #[.bool x.1.1.1, .slice sz0a1 sz0n1 sz0c1, .slice sz0a2 sz0n2 sz0c2, .bool x.2.1.1, .slice sz1a1 sz1n1 sz1c1, .slice sz1a2 sz1n2 sz1c2] 28)) w' → w'.cell? ⟨w.heap.size, 0, none⟩ = some (.bool x.1.1.1) ∧ w'.cell? ⟨w.heap.size, 1, none⟩ = some (.slice z0a1 z0n1 z0c1) ∧ w'.cell? ⟨w.heap.size, 2, none⟩ = some (.slice z0a2 z0n2 z0c2) ∧ w'.cell? ⟨w.heap.size, 3, none⟩ = some (.bool x.2.1.1) ∧ w'.cell? ⟨w.heap.size, 4, none⟩ = some (.slice z1a1 z1n1 z1c1) ∧ w'.cell? ⟨w.heap.size, 5, none⟩ = some (.slice z1a2 z1n2 z1c2) ∧ (∀ j, w'.frozen? ⟨w.heap.size, j, none⟩ = false) ∧ w'.cell? ⟨w.heap.size + 1, 0, none⟩ = some (.bool x.1.1.1) ∧ w'.cell? ⟨w.heap.size + 1, 1, none⟩ = some (.slice sz0a1 sz0n1 sz0c1) ∧ w'.cell? ⟨w.heap.size + 1, 2, none⟩ = some (.slice sz0a2 sz0n2 sz0c2) ∧ w'.cell? ⟨w.heap.size + 1, 3, none⟩ = some (.bool x.2.1.1) ∧ w'.cell? ⟨w.heap.size + 1, 4, none⟩ = some (.slice sz1a1 sz1n1 sz1c1) ∧ w'.cell? ⟨w.heap.size + 1, 5, none⟩ = some (.slice sz1a2 sz1n2 sz1c2) ∧ (∀ j, w'.frozen? ⟨w.heap.size + 1, j, none⟩ = false) := fun w' h => ⟨box_new (by simp) (More.un h) 0, box_new (by simp) (More.un h) 1, box_new (by simp) (More.un h) 2, box_new (by simp) (More.un h) 3, box_new (by simp) (More.un h) 4, box_new (by simp) (More.un h) 5, fun j => box_free (by simp) (More.un h) j, box_new (by simp) h 0, box_new (by simp) h 1, box_new (by simp) h 2, box_new (by simp) h 3, box_new (by simp) h 4, box_new (by simp) h 5, fun j => box_free (by simp) h j⟩
  go_enter Tryz.func7, Tryz.ntmps7
  go_wp2_with fail
  refine (laws_eqRat _ _ x.1 _ (Ty.at_more F0.out mC) (Ty.at_more G0.out mC) (by have := HW.out; unfold wPoint  at this; omega)).mono ?_
  rintro e w1 ⟨rfl, hb1⟩; have HX : More ((w.alloc (.cells #[.bool x.1.1.1, .slice z0a1 z0n1 z0c1, .slice z0a2 z0n2 z0c2, .bool x.2.1.1, .slice z1a1 z1n1 z1c1, .slice z1a2 z1n2 z1c2] 28)).alloc (.cells #[.bool x.1.1.1, .slice sz0a1 sz0n1 sz0c1, .slice sz0a2 sz0n2 sz0c2, .bool x.2.1.1, .slice sz1a1 sz1n1 sz1c1, .slice sz1a2 sz1n2 sz1c2] 28)) _ := More.trans (by assumption) hb1; have HBw := HB _ HX
  go_wp2_with fail
  refine (laws_eqRat _ _ x.2 _ (Ty.at_more F1.out mC) (Ty.at_more G1.out mC) (by have := HW.out; unfold wPoint  at this; omega)).mono ?_
  rintro e w2 ⟨rfl, hb1⟩; have HX : More ((w.alloc (.cells #[.bool x.1.1.1, .slice z0a1 z0n1 z0c1, .slice z0a2 z0n2 z0c2, .bool x.2.1.1, .slice z1a1 z1n1 z1c1, .slice z1a2 z1n2 z1c2] 28)).alloc (.cells #[.bool x.1.1.1, .slice sz0a1 sz0n1 sz0c1, .slice sz0a2 sz0n2 sz0c2, .bool x.2.1.1, .slice sz1a1 sz1n1 sz1c1, .slice sz1a2 sz1n2 sz1c2] 28)) _ := More.trans (by assumption) hb1; have HBw := HB _ HX
  go_wp2_with fail
  go_ret
  exact ⟨rfl, mC⟩
end Go.Proofs.YtnbefpfijaimjaaGreatDoor
