/- szStep: how much of the room a value of this kind takes. -/
import Derived.Test.YteihkhniibncnaaSzPoint
import Derived.Test.YteihkhniibncnaaGBase
import Derived.Test.YteihkhniibncnaaGVec
import Derived.Deep.RegionHeld3
namespace Go.Proofs.Yteihkhniibncnaa
open Go.RowKit

set_option maxHeartbeats 1600000 in
theorem laws_szStep (cs : List Value) (x : QStep) (left : Int) (w : World) (hv : tStep.at w cs x) (h0 : 0 ≤ left) (h1 : left ≤ 1048576) :
    Calls Try.prog 66 #[.agg cs.toArray, .int .i64 left] w fun e w' => e = .returned (.int .i64 (szI (wStep x) left)) ∧ More w w' := by
  obtain ⟨k0, d0, rfl, f0, e0⟩ := at_prod hv
  have f1 := e0; clear e0
  obtain rfl := sh_int f0
  have F0 := Lib.hid f0; clear f0
  obtain ⟨z1a1, z1n1, z1c1, z1a2, z1n2, z1c2, z1a4, z1n4, z1c4, z1a5, z1n5, z1c5, rfl⟩ := sh_Point f1
  have F1 := Lib.hid f1; clear f1
  show Calls Try.prog 66 #[.agg #[.int .i64 x.1, .bool x.2.1.1.1, .slice z1a1 z1n1 z1c1, .slice z1a2 z1n2 z1c2, .bool x.2.2.1.1, .slice z1a4 z1n4 z1c4, .slice z1a5 z1n5 z1c5], .int .i64 left] w _
  have HX : More (w.alloc (.cells #[.int .i64 x.1, .bool x.2.1.1.1, .slice z1a1 z1n1 z1c1, .slice z1a2 z1n2 z1c2, .bool x.2.2.1.1, .slice z1a4 z1n4 z1c4, .slice z1a5 z1n5 z1c5] 110)) (w.alloc (.cells #[.int .i64 x.1, .bool x.2.1.1.1, .slice z1a1 z1n1 z1c1, .slice z1a2 z1n2 z1c2, .bool x.2.2.1.1, .slice z1a4 z1n4 z1c4, .slice z1a5 z1n5 z1c5] 110)) := More.refl _
  have HB : ∀ w', More (w.alloc (.cells #[.int .i64 x.1, .bool x.2.1.1.1, .slice z1a1 z1n1 z1c1, .slice z1a2 z1n2 z1c2, .bool x.2.2.1.1, .slice z1a4 z1n4 z1c4, .slice z1a5 z1n5 z1c5] 110)) w' → w'.cell? ⟨w.heap.size, 0, none⟩ = some (.int .i64 x.1) ∧ w'.cell? ⟨w.heap.size, 1, none⟩ = some (.bool x.2.1.1.1) ∧ w'.cell? ⟨w.heap.size, 2, none⟩ = some (.slice z1a1 z1n1 z1c1) ∧ w'.cell? ⟨w.heap.size, 3, none⟩ = some (.slice z1a2 z1n2 z1c2) ∧ w'.cell? ⟨w.heap.size, 4, none⟩ = some (.bool x.2.2.1.1) ∧ w'.cell? ⟨w.heap.size, 5, none⟩ = some (.slice z1a4 z1n4 z1c4) ∧ w'.cell? ⟨w.heap.size, 6, none⟩ = some (.slice z1a5 z1n5 z1c5) ∧ (∀ j, w'.frozen? ⟨w.heap.size, j, none⟩ = false) := fun w' h => ⟨box_new (by simp) h 0, box_new (by simp) h 1, box_new (by simp) h 2, box_new (by simp) h 3, box_new (by simp) h 4, box_new (by simp) h 5, box_new (by simp) h 6, fun j => box_free (by simp) h j⟩
  go_enter Try.func66, Try.ntmps66
  go_wp2_with fail
  refine (laws_szPoint _ x.2 _ _ (Ty.at_more F1.out mC) (by omega) (by omega)).mono ?_
  rintro e w1 ⟨rfl, hb1⟩; have HX : More (w.alloc (.cells #[.int .i64 x.1, .bool x.2.1.1.1, .slice z1a1 z1n1 z1c1, .slice z1a2 z1n2 z1c2, .bool x.2.2.1.1, .slice z1a4 z1n4 z1c4, .slice z1a5 z1n5 z1c5] 110)) _ := More.trans (by assumption) hb1; have HBw := HB _ HX
  by_cases k0 : ((wPoint x.2 : Nat) : Int) ≤ left
  rotate_left
  · rw [szI_neg k0]; go_wp2_with fail; go_ret; exact ⟨ret_int (szI_neg (by unfold wStep; omega)).symm, mC⟩
  rw [szI_pos k0]
  have g0 : 0 ≤ left - (wPoint x.2 : Nat) := by omega
  go_wp2_with fail
  go_ret
  exact ⟨ret_int (by rw [szI_pos (by unfold wStep; omega)]; unfold wStep; omega), mC⟩
end Go.Proofs.Yteihkhniibncnaa
