/- Several texts laid together; each has its own word at its head. -/
import Derived.Test.YtnbefpfijaimjaaGreatDoorGBase
import Derived.Test.YtnbefpfijaimjaaGreatDoorGVec
import Derived.Deep.RegionHeld3
/- szIntS: how much of the room a value of this kind takes. -/
namespace Go.Proofs.YtnbefpfijaimjaaGreatDoor
open Go.RowKit
end Go.Proofs.YtnbefpfijaimjaaGreatDoor
/- szBigInt: how much of the room a value of this kind takes. -/
namespace Go.Proofs.YtnbefpfijaimjaaGreatDoor
open Go.RowKit

end Go.Proofs.YtnbefpfijaimjaaGreatDoor
/- szRat: how much of the room a value of this kind takes. -/
namespace Go.Proofs.YtnbefpfijaimjaaGreatDoor
open Go.RowKit

end Go.Proofs.YtnbefpfijaimjaaGreatDoor
/- toIntS: the copy of a value of this kind in new memory. -/
namespace Go.Proofs.YtnbefpfijaimjaaGreatDoor
open Go.RowKit
end Go.Proofs.YtnbefpfijaimjaaGreatDoor
/- toBigInt: the copy of a value of this kind in new memory. -/
namespace Go.Proofs.YtnbefpfijaimjaaGreatDoor
open Go.RowKit

end Go.Proofs.YtnbefpfijaimjaaGreatDoor
/- toRat: the copy of a value of this kind in new memory. -/
namespace Go.Proofs.YtnbefpfijaimjaaGreatDoor
open Go.RowKit

end Go.Proofs.YtnbefpfijaimjaaGreatDoor
/- eqBigInt: two values of this kind that read alike are equal. -/

namespace Go.Proofs.YtnbefpfijaimjaaGreatDoor
open Go.RowKit

set_option maxHeartbeats 3200000 in
theorem laws_eqBigInt (cs ds : List Value) (x : Bool × List Int) (w : World) (hv : tBig.at w cs x) (hv' : tBig.at w ds x) (hw : wBigInt x ≤ 1048576) :
    Calls Tryz.prog 48 #[.agg cs.toArray, .agg ds.toArray] w fun e w' => e = .returned (.bool true) ∧ More w w' := by
  have HW := Lib.hid hw; clear hw
  obtain ⟨k0, d0, rfl, f0, e0⟩ := at_prod hv
  have f1 := e0; clear e0
  obtain rfl := sh_bool f0
  have F0 := Lib.hid f0; clear f0
  obtain ⟨z1a0, z1n0, z1c0, rfl⟩ := sh_slice f1
  have F1 := Lib.hid f1; clear f1
  obtain ⟨sk0, sd0, rfl, sf0, se0⟩ := at_prod hv'
  have sf1 := se0; clear se0
  obtain rfl := sh_bool sf0
  have G0 := Lib.hid sf0; clear sf0
  obtain ⟨sz1a0, sz1n0, sz1c0, rfl⟩ := sh_slice sf1
  have G1 := Lib.hid sf1; clear sf1
  show Calls Tryz.prog 48 #[.agg #[.bool x.1, .slice z1a0 z1n0 z1c0], .agg #[.bool x.1, .slice sz1a0 sz1n0 sz1c0]] w _
  have HX : More ((w.alloc (.cells #[.bool x.1, .slice z1a0 z1n0 z1c0] 24)).alloc (.cells #[.bool x.1, .slice sz1a0 sz1n0 sz1c0] 24)) ((w.alloc (.cells #[.bool x.1, .slice z1a0 z1n0 z1c0] 24)).alloc (.cells #[.bool x.1, .slice sz1a0 sz1n0 sz1c0] 24)) := More.refl _
  have HB : ∀ w', More ((w.alloc (.cells #[.bool x.1, .slice z1a0 z1n0 z1c0] 24)).alloc (.cells #[.bool x.1, .slice sz1a0 sz1n0 sz1c0] 24)) w' → w'.cell? ⟨w.heap.size, 0, none⟩ = some (.bool x.1) ∧ w'.cell? ⟨w.heap.size, 1, none⟩ = some (.slice z1a0 z1n0 z1c0) ∧ (∀ j, w'.frozen? ⟨w.heap.size, j, none⟩ = false) ∧ w'.cell? ⟨w.heap.size + 1, 0, none⟩ = some (.bool x.1) ∧ w'.cell? ⟨w.heap.size + 1, 1, none⟩ = some (.slice sz1a0 sz1n0 sz1c0) ∧ (∀ j, w'.frozen? ⟨w.heap.size + 1, j, none⟩ = false) := fun w' h => ⟨box_new (by simp) (More.un h) 0, box_new (by simp) (More.un h) 1, fun j => box_free (by simp) (More.un h) j, box_new (by simp) h 0, box_new (by simp) h 1, fun j => box_free (by simp) h j⟩
  go_enter Tryz.func48, Tryz.ntmps48
  go_wp2_with fail
  refine (laws_eqIntS _ _ x.2 _ (Ty.at_more F1.out mC) (Ty.at_more G1.out mC) (by have := HW.out; unfold wBigInt wIntS at this; omega)).mono ?_
  rintro e w2 ⟨rfl, hb1⟩; have HX : More ((w.alloc (.cells #[.bool x.1, .slice z1a0 z1n0 z1c0] 24)).alloc (.cells #[.bool x.1, .slice sz1a0 sz1n0 sz1c0] 24)) _ := More.trans (by assumption) hb1; have HBw := HB _ HX
  go_wp2_with fail
  go_ret
  exact ⟨rfl, mC⟩
end Go.Proofs.YtnbefpfijaimjaaGreatDoor
/- eqRat: two values of this kind that read alike are equal. -/
namespace Go.Proofs.YtnbefpfijaimjaaGreatDoor
open Go.RowKit

set_option maxHeartbeats 3200000 in
theorem laws_eqRat (cs ds : List Value) (x : QR) (w : World) (hv : tRat.at w cs x) (hv' : tRat.at w ds x) (hw : wRat x ≤ 1048576) :
    Calls Tryz.prog 25 #[.agg cs.toArray, .agg ds.toArray] w fun e w' => e = .returned (.bool true) ∧ More w w' := by
  have HW := Lib.hid hw; clear hw
  obtain ⟨k0, d0, rfl, f0, e0⟩ := at_prod hv
  have f1 := e0; clear e0
  obtain ⟨z0a1, z0n1, z0c1, rfl⟩ := sh_BigInt f0
  have F0 := Lib.hid f0; clear f0
  obtain ⟨z1a0, z1n0, z1c0, rfl⟩ := sh_slice f1
  have F1 := Lib.hid f1; clear f1
  obtain ⟨sk0, sd0, rfl, sf0, se0⟩ := at_prod hv'
  have sf1 := se0; clear se0
  obtain ⟨sz0a1, sz0n1, sz0c1, rfl⟩ := sh_BigInt sf0
  have G0 := Lib.hid sf0; clear sf0
  obtain ⟨sz1a0, sz1n0, sz1c0, rfl⟩ := sh_slice sf1
  have G1 := Lib.hid sf1; clear sf1
  show Calls Tryz.prog 25 #[.agg #[.bool x.1.1, .slice z0a1 z0n1 z0c1, .slice z1a0 z1n0 z1c0], .agg #[.bool x.1.1, .slice sz0a1 sz0n1 sz0c1, .slice sz1a0 sz1n0 sz1c0]] w _
  have HX : More ((w.alloc (.cells #[.bool x.1.1, .slice z0a1 z0n1 z0c1, .slice z1a0 z1n0 z1c0] 26)).alloc (.cells #[.bool x.1.1, .slice sz0a1 sz0n1 sz0c1, .slice sz1a0 sz1n0 sz1c0] 26)) ((w.alloc (.cells #[.bool x.1.1, .slice z0a1 z0n1 z0c1, .slice z1a0 z1n0 z1c0] 26)).alloc (.cells #[.bool x.1.1, .slice sz0a1 sz0n1 sz0c1, .slice sz1a0 sz1n0 sz1c0] 26)) := More.refl _
  have HB : ∀ w', More ((w.alloc (.cells #[.bool x.1.1, .slice z0a1 z0n1 z0c1, .slice z1a0 z1n0 z1c0] 26)).alloc (.cells #[.bool x.1.1, .slice sz0a1 sz0n1 sz0c1, .slice sz1a0 sz1n0 sz1c0] 26)) w' → w'.cell? ⟨w.heap.size, 0, none⟩ = some (.bool x.1.1) ∧ w'.cell? ⟨w.heap.size, 1, none⟩ = some (.slice z0a1 z0n1 z0c1) ∧ w'.cell? ⟨w.heap.size, 2, none⟩ = some (.slice z1a0 z1n0 z1c0) ∧ (∀ j, w'.frozen? ⟨w.heap.size, j, none⟩ = false) ∧ w'.cell? ⟨w.heap.size + 1, 0, none⟩ = some (.bool x.1.1) ∧ w'.cell? ⟨w.heap.size + 1, 1, none⟩ = some (.slice sz0a1 sz0n1 sz0c1) ∧ w'.cell? ⟨w.heap.size + 1, 2, none⟩ = some (.slice sz1a0 sz1n0 sz1c0) ∧ (∀ j, w'.frozen? ⟨w.heap.size + 1, j, none⟩ = false) := fun w' h => ⟨box_new (by simp) (More.un h) 0, box_new (by simp) (More.un h) 1, box_new (by simp) (More.un h) 2, fun j => box_free (by simp) (More.un h) j, box_new (by simp) h 0, box_new (by simp) h 1, box_new (by simp) h 2, fun j => box_free (by simp) h j⟩
  go_enter Tryz.func25, Tryz.ntmps25
  go_wp2_with fail
  refine (laws_eqBigInt _ _ x.1 _ (Ty.at_more F0.out mC) (Ty.at_more G0.out mC) (by have := HW.out; unfold wRat  at this; omega)).mono ?_
  rintro e w1 ⟨rfl, hb1⟩; have HX : More ((w.alloc (.cells #[.bool x.1.1, .slice z0a1 z0n1 z0c1, .slice z1a0 z1n0 z1c0] 26)).alloc (.cells #[.bool x.1.1, .slice sz0a1 sz0n1 sz0c1, .slice sz1a0 sz1n0 sz1c0] 26)) _ := More.trans (by assumption) hb1; have HBw := HB _ HX
  go_wp2_with fail
  refine (laws_eqIntS _ _ x.2 _ (Ty.at_more F1.out mC) (Ty.at_more G1.out mC) (by have := HW.out; unfold wRat wIntS at this; omega)).mono ?_
  rintro e w2 ⟨rfl, hb1⟩; have HX : More ((w.alloc (.cells #[.bool x.1.1, .slice z0a1 z0n1 z0c1, .slice z1a0 z1n0 z1c0] 26)).alloc (.cells #[.bool x.1.1, .slice sz0a1 sz0n1 sz0c1, .slice sz1a0 sz1n0 sz1c0] 26)) _ := More.trans (by assumption) hb1; have HBw := HB _ HX
  go_wp2_with fail
  go_ret
  exact ⟨rfl, mC⟩
end Go.Proofs.YtnbefpfijaimjaaGreatDoor
