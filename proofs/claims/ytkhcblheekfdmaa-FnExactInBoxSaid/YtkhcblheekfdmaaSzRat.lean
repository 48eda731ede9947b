/- szRat: how much of the room a value of this kind takes. -/
import Derived.Test.YtkhcblheekfdmaaSzBigInt
import Derived.Test.YtkhcblheekfdmaaSzIntS
import Derived.Test.YtkhcblheekfdmaaKin
import Derived.Test.YtkhcblheekfdmaaVecS
import Derived.Deep.RegionHeld3
namespace Go.Proofs.Ytkhcblheekfdmaa
open Go.RowKit

set_option maxHeartbeats 1600000 in
theorem laws_szRat (cs : List Value) (x : QR) (left : Int) (w : World) (hv : tRat.at w cs x) (h0 : 0 ≤ left) (h1 : left ≤ 1048576) :
    Calls Try.prog 37 #[.agg cs.toArray, .int .i64 left] w fun e w' => e = .returned (.int .i64 (szI (wRat x) left)) ∧ More w w' := by
  obtain ⟨k0, d0, rfl, f0, e0⟩ := at_prod hv
  have f1 := e0; clear e0
  obtain ⟨z0a1, z0n1, z0c1, rfl⟩ := sh_BigInt f0
  have F0 := Lib.hid f0; clear f0
  obtain ⟨z1a0, z1n0, z1c0, rfl⟩ := sh_slice f1
  have F1 := Lib.hid f1; clear f1
  show Calls Try.prog 37 #[.agg #[.bool x.1.1, .slice z0a1 z0n1 z0c1, .slice z1a0 z1n0 z1c0], .int .i64 left] w _
  have HX : More (w.alloc (.cells #[.bool x.1.1, .slice z0a1 z0n1 z0c1, .slice z1a0 z1n0 z1c0] 44)) (w.alloc (.cells #[.bool x.1.1, .slice z0a1 z0n1 z0c1, .slice z1a0 z1n0 z1c0] 44)) := More.refl _
  have HB : ∀ w', More (w.alloc (.cells #[.bool x.1.1, .slice z0a1 z0n1 z0c1, .slice z1a0 z1n0 z1c0] 44)) w' → w'.cell? ⟨w.heap.size, 0, none⟩ = some (.bool x.1.1) ∧ w'.cell? ⟨w.heap.size, 1, none⟩ = some (.slice z0a1 z0n1 z0c1) ∧ w'.cell? ⟨w.heap.size, 2, none⟩ = some (.slice z1a0 z1n0 z1c0) ∧ (∀ j, w'.frozen? ⟨w.heap.size, j, none⟩ = false) := fun w' h => ⟨box_new (by simp) h 0, box_new (by simp) h 1, box_new (by simp) h 2, fun j => box_free (by simp) h j⟩
  go_enter Try.func37, Try.ntmps37
  go_wp2_with fail
  refine (laws_szBigInt _ x.1 _ _ (Ty.at_more F0.out (Turns.more (by repeat (first | (with_reducible exact Turns.refl _ _) | (with_reducible apply Turns.drew) | (with_reducible apply Turns.drewN) | (with_reducible apply Turns.alloc) | (with_reducible refine Turns.via (by assumption) ?_))))) (by omega) (by omega)).mono ?_
  rintro e w1 ⟨rfl, hb1⟩; have HX : More (w.alloc (.cells #[.bool x.1.1, .slice z0a1 z0n1 z0c1, .slice z1a0 z1n0 z1c0] 44)) _ := More.trans (by assumption) hb1; have HBw := HB _ HX
  by_cases k0 : ((wBigInt x.1 : Nat) : Int) ≤ left
  rotate_left
  · rw [szI_neg k0]; go_wp2_with fail; go_ret; exact ⟨ret_int (szI_neg (by unfold wRat; omega)).symm, (Turns.more (by repeat (first | (with_reducible exact Turns.refl _ _) | (with_reducible apply Turns.drew) | (with_reducible apply Turns.drewN) | (with_reducible apply Turns.alloc) | (with_reducible refine Turns.via (by assumption) ?_))))⟩
  rw [szI_pos k0]
  have g0 : 0 ≤ left - (wBigInt x.1 : Nat) := by omega
  go_wp2_with fail
  refine (laws_szIntS _ x.2 _ _ (Ty.at_more F1.out (Turns.more (by repeat (first | (with_reducible exact Turns.refl _ _) | (with_reducible apply Turns.drew) | (with_reducible apply Turns.drewN) | (with_reducible apply Turns.alloc) | (with_reducible refine Turns.via (by assumption) ?_))))) (by omega) (by omega)).mono ?_
  rintro e w2 ⟨rfl, hb1⟩; have HX : More (w.alloc (.cells #[.bool x.1.1, .slice z0a1 z0n1 z0c1, .slice z1a0 z1n0 z1c0] 44)) _ := More.trans (by assumption) hb1; have HBw := HB _ HX
  by_cases k1 : ((wIntS x.2 : Nat) : Int) ≤ left - (wBigInt x.1 : Nat)
  rotate_left
  · rw [szI_neg k1]; go_wp2_with fail; go_ret; exact ⟨ret_int (szI_neg (by unfold wRat; omega)).symm, (Turns.more (by repeat (first | (with_reducible exact Turns.refl _ _) | (with_reducible apply Turns.drew) | (with_reducible apply Turns.drewN) | (with_reducible apply Turns.alloc) | (with_reducible refine Turns.via (by assumption) ?_))))⟩
  rw [szI_pos k1]
  have g1 : 0 ≤ left - (wBigInt x.1 : Nat) - (wIntS x.2 : Nat) := by omega
  go_wp2_with fail
  go_ret
  exact ⟨ret_int (by rw [szI_pos (by unfold wRat; omega)]; unfold wRat; omega), (Turns.more (by repeat (first | (with_reducible exact Turns.refl _ _) | (with_reducible apply Turns.drew) | (with_reducible apply Turns.drewN) | (with_reducible apply Turns.alloc) | (with_reducible refine Turns.via (by assumption) ?_))))⟩
end Go.Proofs.Ytkhcblheekfdmaa
