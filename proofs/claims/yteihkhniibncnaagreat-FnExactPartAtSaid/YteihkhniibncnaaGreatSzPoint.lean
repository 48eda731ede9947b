/- szPoint: how much of the room a value of this kind takes. -/
import Derived.Test.YteihkhniibncnaaGreatGHelp
import Derived.Test.YteihkhniibncnaaGreatGBase
import Derived.Test.YteihkhniibncnaaGreatGVec
import Derived.Deep.RegionHeld3
namespace Go.Proofs.YteihkhniibncnaaGreat
open Go.RowKit

set_option maxHeartbeats 1600000 in
theorem laws_szPoint (cs : List Value) (x : QP) (left : Int) (w : World) (hv : tPoint.at w cs x) (h0 : 0 ≤ left) (h1 : left ≤ 1048576) :
    Calls Tryz.prog 31 #[.agg cs.toArray, .int .i64 left] w fun e w' => e = .returned (.int .i64 (szI (wPoint x) left)) ∧ More w w' := by
  obtain ⟨k0, d0, rfl, f0, e0⟩ := at_prod hv
  have f1 := e0; clear e0
  obtain ⟨z0a1, z0n1, z0c1, z0a2, z0n2, z0c2, rfl⟩ := sh_Rat f0
  have F0 := Lib.hid f0; clear f0
  obtain ⟨z1a1, z1n1, z1c1, z1a2, z1n2, z1c2, rfl⟩ := sh_Rat f1
  have F1 := Lib.hid f1; clear f1
  show Calls Tryz.prog 31 #[.agg #[.bool x.1.1.1, .slice z0a1 z0n1 z0c1, .slice z0a2 z0n2 z0c2, .bool x.2.1.1, .slice z1a1 z1n1 z1c1, .slice z1a2 z1n2 z1c2], .int .i64 left] w _
  have HX : More (w.alloc (.cells #[.bool x.1.1.1, .slice z0a1 z0n1 z0c1, .slice z0a2 z0n2 z0c2, .bool x.2.1.1, .slice z1a1 z1n1 z1c1, .slice z1a2 z1n2 z1c2] 68)) (w.alloc (.cells #[.bool x.1.1.1, .slice z0a1 z0n1 z0c1, .slice z0a2 z0n2 z0c2, .bool x.2.1.1, .slice z1a1 z1n1 z1c1, .slice z1a2 z1n2 z1c2] 68)) := More.refl _
  have HB : ∀ w', More (w.alloc (.cells #[.bool x.1.1.1, .slice z0a1 z0n1 z0c1, .slice z0a2 z0n2 z0c2, .bool x.2.1.1, .slice z1a1 z1n1 z1c1, .slice z1a2 z1n2 z1c2] 68)) w' → w'.cell? ⟨w.heap.size, 0, none⟩ = some (.bool x.1.1.1) ∧ w'.cell? ⟨w.heap.size, 1, none⟩ = some (.slice z0a1 z0n1 z0c1) ∧ w'.cell? ⟨w.heap.size, 2, none⟩ = some (.slice z0a2 z0n2 z0c2) ∧ w'.cell? ⟨w.heap.size, 3, none⟩ = some (.bool x.2.1.1) ∧ w'.cell? ⟨w.heap.size, 4, none⟩ = some (.slice z1a1 z1n1 z1c1) ∧ w'.cell? ⟨w.heap.size, 5, none⟩ = some (.slice z1a2 z1n2 z1c2) ∧ (∀ j, w'.frozen? ⟨w.heap.size, j, none⟩ = false) := fun w' h => ⟨box_new (by simp) h 0, box_new (by simp) h 1, box_new (by simp) h 2, box_new (by simp) h 3, box_new (by simp) h 4, box_new (by simp) h 5, fun j => box_free (by simp) h j⟩
  go_enter Tryz.func31, Tryz.ntmps31
  go_wp2_with fail
  refine (laws_szRat _ x.1 _ _ (Ty.at_more F0.out mC) (by omega) (by omega)).mono ?_
  rintro e w1 ⟨rfl, hb1⟩; have HX : More (w.alloc (.cells #[.bool x.1.1.1, .slice z0a1 z0n1 z0c1, .slice z0a2 z0n2 z0c2, .bool x.2.1.1, .slice z1a1 z1n1 z1c1, .slice z1a2 z1n2 z1c2] 68)) _ := More.trans (by assumption) hb1; have HBw := HB _ HX
  by_cases k0 : ((wRat x.1 : Nat) : Int) ≤ left
  rotate_left
  · rw [szI_neg k0]; go_wp2_with fail; go_ret; exact ⟨ret_int (szI_neg (by unfold wPoint; omega)).symm, mC⟩
  rw [szI_pos k0]
  have g0 : 0 ≤ left - (wRat x.1 : Nat) := by omega
  go_wp2_with fail
  refine (laws_szRat _ x.2 _ _ (Ty.at_more F1.out mC) (by omega) (by omega)).mono ?_
  rintro e w2 ⟨rfl, hb1⟩; have HX : More (w.alloc (.cells #[.bool x.1.1.1, .slice z0a1 z0n1 z0c1, .slice z0a2 z0n2 z0c2, .bool x.2.1.1, .slice z1a1 z1n1 z1c1, .slice z1a2 z1n2 z1c2] 68)) _ := More.trans (by assumption) hb1; have HBw := HB _ HX
  by_cases k1 : ((wRat x.2 : Nat) : Int) ≤ left - (wRat x.1 : Nat)
  rotate_left
  · rw [szI_neg k1]; go_wp2_with fail; go_ret; exact ⟨ret_int (szI_neg (by unfold wPoint; omega)).symm, mC⟩
  rw [szI_pos k1]
  have g1 : 0 ≤ left - (wRat x.1 : Nat) - (wRat x.2 : Nat) := by omega
  go_wp2_with fail
  go_ret
  exact ⟨ret_int (by rw [szI_pos (by unfold wPoint; omega)]; unfold wPoint; omega), mC⟩
end Go.Proofs.YteihkhniibncnaaGreat
