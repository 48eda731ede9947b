/- Several texts laid together; each has its own word at its head. -/
import Derived.Test.YtbbibfeblaocfaaGVec
import Derived.Test.YtbbibfeblaocfaaGBase
import Derived.Deep.RegionHeld3
import Derived.Test.YtbbibfeblaocfaaGHelp
import Derived.Test.YtbbibfeblaocfaaLdm
/- eqBox: two values of this kind that read alike are equal. -/

namespace Go.Proofs.Ytbbibfeblaocfaa
open Go.RowKit

set_option maxHeartbeats 3200000 in
theorem laws_eqBox (cs ds : List Value) (x : QBox) (w : World) (hv : tBox.at w cs x) (hv' : tBox.at w ds x) :
    Calls Try.prog 100 #[.agg cs.toArray, .agg ds.toArray] w fun e w' => e = .returned (.bool true) ∧ More w w' := by
  obtain ⟨k0, d0, rfl, f0, e0⟩ := at_prod hv
  have f1 := e0; clear e0
  obtain rfl := sh_Vec f0
  have F0 := Lib.hid f0; clear f0
  obtain rfl := sh_Vec f1
  have F1 := Lib.hid f1; clear f1
  obtain ⟨sk0, sd0, rfl, sf0, se0⟩ := at_prod hv'
  have sf1 := se0; clear se0
  obtain rfl := sh_Vec sf0
  have G0 := Lib.hid sf0; clear sf0
  obtain rfl := sh_Vec sf1
  have G1 := Lib.hid sf1; clear sf1
  show Calls Try.prog 100 #[.agg #[.int .i64 x.1.1, .int .i64 x.1.2, .int .i64 x.2.1, .int .i64 x.2.2], .agg #[.int .i64 x.1.1, .int .i64 x.1.2, .int .i64 x.2.1, .int .i64 x.2.2]] w _
  have HX : More ((w.alloc (.cells #[.int .i64 x.1.1, .int .i64 x.1.2, .int .i64 x.2.1, .int .i64 x.2.2] 64)).alloc (.cells #[.int .i64 x.1.1, .int .i64 x.1.2, .int .i64 x.2.1, .int .i64 x.2.2] 64)) ((w.alloc (.cells #[.int .i64 x.1.1, .int .i64 x.1.2, .int .i64 x.2.1, .int .i64 x.2.2] 64)).alloc (.cells #[.int .i64 x.1.1, .int .i64 x.1.2, .int .i64 x.2.1, .int .i64 x.2.2] 64)) := More.refl _
  have HB : ∀ w', More ((w.alloc (.cells #[.int .i64 x.1.1, .int .i64 x.1.2, .int .i64 x.2.1, .int .i64 x.2.2] 64)).alloc (.cells #[.int .i64 x.1.1, .int .i64 x.1.2, .int .i64 x.2.1, .int .i64 x.2.2] 64)) w' → w'.cell? ⟨w.heap.size, 0, none⟩ = some (.int .i64 x.1.1) ∧ w'.cell? ⟨w.heap.size, 1, none⟩ = some (.int .i64 x.1.2) ∧ w'.cell? ⟨w.heap.size, 2, none⟩ = some (.int .i64 x.2.1) ∧ w'.cell? ⟨w.heap.size, 3, none⟩ = some (.int .i64 x.2.2) ∧ (∀ j, w'.frozen? ⟨w.heap.size, j, none⟩ = false) ∧ w'.cell? ⟨w.heap.size + 1, 0, none⟩ = some (.int .i64 x.1.1) ∧ w'.cell? ⟨w.heap.size + 1, 1, none⟩ = some (.int .i64 x.1.2) ∧ w'.cell? ⟨w.heap.size + 1, 2, none⟩ = some (.int .i64 x.2.1) ∧ w'.cell? ⟨w.heap.size + 1, 3, none⟩ = some (.int .i64 x.2.2) ∧ (∀ j, w'.frozen? ⟨w.heap.size + 1, j, none⟩ = false) := fun w' h => ⟨box_new (by simp) (More.un h) 0, box_new (by simp) (More.un h) 1, box_new (by simp) (More.un h) 2, box_new (by simp) (More.un h) 3, fun j => box_free (by simp) (More.un h) j, box_new (by simp) h 0, box_new (by simp) h 1, box_new (by simp) h 2, box_new (by simp) h 3, fun j => box_free (by simp) h j⟩
  go_enter Try.func100, Try.ntmps100
  go_wp2_with fail
  refine (laws_eqVec _ _ _).mono ?_
  rintro e w1 ⟨rfl, hb1⟩; have HX : More ((w.alloc (.cells #[.int .i64 x.1.1, .int .i64 x.1.2, .int .i64 x.2.1, .int .i64 x.2.2] 64)).alloc (.cells #[.int .i64 x.1.1, .int .i64 x.1.2, .int .i64 x.2.1, .int .i64 x.2.2] 64)) _ := More.trans (by assumption) hb1; have HBw := HB _ HX
  go_wp2_with fail
  refine (laws_eqVec _ _ _).mono ?_
  rintro e w2 ⟨rfl, hb1⟩; have HX : More ((w.alloc (.cells #[.int .i64 x.1.1, .int .i64 x.1.2, .int .i64 x.2.1, .int .i64 x.2.2] 64)).alloc (.cells #[.int .i64 x.1.1, .int .i64 x.1.2, .int .i64 x.2.1, .int .i64 x.2.2] 64)) _ := More.trans (by assumption) hb1; have HBw := HB _ HX
  go_wp2_with fail
  go_ret
  exact ⟨rfl, mC⟩
end Go.Proofs.Ytbbibfeblaocfaa
/- eqVecSS: two values of this kind that read alike are equal. -/
namespace Go.Proofs.Ytbbibfeblaocfaa
open Go.RowKit
set_option maxHeartbeats 3200000 in
theorem laws_eqVecSS (v v' : Value) (l : List (List QV)) (w : World) (hv : tVecSS.at w [v] l) (hv' : tVecSS.at w [v'] l) (hw : wVecSS l ≤ 1048576) :
    Calls Try.prog 77 #[v, v'] w fun e w' => e = .returned (.bool true) ∧ More w w' := by
  obtain ⟨ao, cap, rfl⟩ := sl_len hv
  obtain ⟨ao', cap', rfl⟩ := sl_len hv'
  have HV := Lib.hid hv; clear hv
  have HV' := Lib.hid hv'; clear hv'
  have HW : Hid (l.length + wsum wVecS l ≤ 1048576) := Lib.hid hw
  have hl : l.length ≤ 1048576 := by have := HW.out; omega
  clear hw
  obtain ⟨n, hn⟩ : ∃ n, n = l.length := ⟨_, rfl⟩
  rw [← hn] at HV HV' hl ⊢
  have HN := Lib.hid hn; clear hn
  go_enter Try.func77, Try.ntmps77
  go_wp2_with fail
  go_loopw [5] (fun i wr => ∃ k : Nat, k ≤ n ∧ i = .int .i64 k ∧ More w wr) (fun i _ => n - (intOf i).toNat)
  case atStart => exact ⟨0, Nat.zero_le _, rfl, More.refl _⟩
  case round =>
    obtain ⟨k, hk, rfl, hm⟩ := hrel
    by_cases hlt : k < n
    · obtain ⟨b, off, x, a0, n0, c0, rfl, hblt, hx, hat, p0⟩ := el_VecS (Ty.at_more HV.out hm) (k := k) (by rw [← HN.out]; exact hlt)
      obtain ⟨b', off', y, sa0, sn0, sc0, rfl, hblt', hy, hat', q0⟩ := el_VecS (Ty.at_more HV'.out hm) (k := k) (by rw [← HN.out]; exact hlt)
      obtain rfl : y = x := by rw [hx] at hy; cases hy; rfl
      clear hx
      have HX := Lib.hid hy; have HA := Lib.hid hat; have HA' := Lib.hid hat'; clear hy hat hat'
      have C0 : ∀ w', More wr w' → w'.cell? ⟨b, off + k, none⟩ = some (.slice a0 n0 c0) := fun w' h => ((bcell h).1 _ _ hblt).trans p0
      have D0 : ∀ w', More wr w' → w'.cell? ⟨b', off' + k, none⟩ = some (.slice sa0 sn0 sc0) := fun w' h => ((bcell h).1 _ _ hblt').trans q0
      go_wp2_with fail
      go_region_held3 (fun w' => More wr w') (first | exact More.refl _ | exact mC) (first | (go_at_call 25; refine (laws_eqVecS _ _ y _ (Ty.at_more HA.out mC) (Ty.at_more HA'.out mC) (by have := wsum_el (f := wVecS) HX.out; have := HW.out; unfold wVecS at *; omega)).mono ?_; rintro e w1 ⟨rfl, hb1⟩))
      go_wp2_with fail
      go_roundw
      case rel => exact ⟨k + 1, by omega, by go_num, mC⟩
      case measure => simp [intOf]; omega
    · go_wp2_with fail
      go_ret
      exact ⟨rfl, hm⟩
end Go.Proofs.Ytbbibfeblaocfaa
/- eqCell: two values of this kind that read alike are equal. -/
namespace Go.Proofs.Ytbbibfeblaocfaa
open Go.RowKit

set_option maxHeartbeats 3200000 in
theorem laws_eqCell (cs ds : List Value) (x : QCell) (w : World) (hv : tCell.at w cs x) (hv' : tCell.at w ds x) (hw : wCell x ≤ 1048576) :
    Calls Try.prog 52 #[.agg cs.toArray, .agg ds.toArray] w fun e w' => e = .returned (.bool true) ∧ More w w' := by
  have HW := Lib.hid hw; clear hw
  obtain ⟨k0, d0, rfl, f0, e0⟩ := at_prod hv
  obtain ⟨k1, d1, rfl, f1, e1⟩ := at_prod e0
  obtain ⟨k2, d2, rfl, f2, e2⟩ := at_prod e1
  obtain ⟨k3, d3, rfl, f3, e3⟩ := at_prod e2
  obtain ⟨k4, d4, rfl, f4, e4⟩ := at_prod e3
  have f5 := e4; clear e4
  obtain ⟨z0a1, z0n1, z0c1, z0a2, z0n2, z0c2, rfl⟩ := sh_Rat f0
  have F0 := Lib.hid f0; clear f0
  obtain ⟨z1a1, z1n1, z1c1, z1a2, z1n2, z1c2, rfl⟩ := sh_Rat f1
  have F1 := Lib.hid f1; clear f1
  obtain ⟨z2a1, z2n1, z2c1, z2a2, z2n2, z2c2, rfl⟩ := sh_Rat f2
  have F2 := Lib.hid f2; clear f2
  obtain ⟨z3a1, z3n1, z3c1, z3a2, z3n2, z3c2, rfl⟩ := sh_Rat f3
  have F3 := Lib.hid f3; clear f3
  obtain ⟨z4a1, z4n1, z4c1, z4a2, z4n2, z4c2, rfl⟩ := sh_Rat f4
  have F4 := Lib.hid f4; clear f4
  obtain ⟨z5a1, z5n1, z5c1, z5a2, z5n2, z5c2, rfl⟩ := sh_Rat f5
  have F5 := Lib.hid f5; clear f5
  obtain ⟨sk0, sd0, rfl, sf0, se0⟩ := at_prod hv'
  obtain ⟨sk1, sd1, rfl, sf1, se1⟩ := at_prod se0
  obtain ⟨sk2, sd2, rfl, sf2, se2⟩ := at_prod se1
  obtain ⟨sk3, sd3, rfl, sf3, se3⟩ := at_prod se2
  obtain ⟨sk4, sd4, rfl, sf4, se4⟩ := at_prod se3
  have sf5 := se4; clear se4
  obtain ⟨sz0a1, sz0n1, sz0c1, sz0a2, sz0n2, sz0c2, rfl⟩ := sh_Rat sf0
  have G0 := Lib.hid sf0; clear sf0
  obtain ⟨sz1a1, sz1n1, sz1c1, sz1a2, sz1n2, sz1c2, rfl⟩ := sh_Rat sf1
  have G1 := Lib.hid sf1; clear sf1
  obtain ⟨sz2a1, sz2n1, sz2c1, sz2a2, sz2n2, sz2c2, rfl⟩ := sh_Rat sf2
  have G2 := Lib.hid sf2; clear sf2
  obtain ⟨sz3a1, sz3n1, sz3c1, sz3a2, sz3n2, sz3c2, rfl⟩ := sh_Rat sf3
  have G3 := Lib.hid sf3; clear sf3
  obtain ⟨sz4a1, sz4n1, sz4c1, sz4a2, sz4n2, sz4c2, rfl⟩ := sh_Rat sf4
  have G4 := Lib.hid sf4; clear sf4
  obtain ⟨sz5a1, sz5n1, sz5c1, sz5a2, sz5n2, sz5c2, rfl⟩ := sh_Rat sf5
  have G5 := Lib.hid sf5; clear sf5
  show Calls Try.prog 52 #[.agg #[.bool x.1.1.1, .slice z0a1 z0n1 z0c1, .slice z0a2 z0n2 z0c2, .bool x.2.1.1.1, .slice z1a1 z1n1 z1c1, .slice z1a2 z1n2 z1c2, .bool x.2.2.1.1.1, .slice z2a1 z2n1 z2c1, .slice z2a2 z2n2 z2c2, .bool x.2.2.2.1.1.1, .slice z3a1 z3n1 z3c1, .slice z3a2 z3n2 z3c2, .bool x.2.2.2.2.1.1.1, .slice z4a1 z4n1 z4c1, .slice z4a2 z4n2 z4c2, .bool x.2.2.2.2.2.1.1, .slice z5a1 z5n1 z5c1, .slice z5a2 z5n2 z5c2], .agg #[.bool x.1.1.1, .slice sz0a1 sz0n1 sz0c1, .slice sz0a2 sz0n2 sz0c2, .bool x.2.1.1.1, .slice sz1a1 sz1n1 sz1c1, .slice sz1a2 sz1n2 sz1c2, .bool x.2.2.1.1.1, .slice sz2a1 sz2n1 sz2c1, .slice sz2a2 sz2n2 sz2c2, .bool x.2.2.2.1.1.1, .slice sz3a1 sz3n1 sz3c1, .slice sz3a2 sz3n2 sz3c2, .bool x.2.2.2.2.1.1.1, .slice sz4a1 sz4n1 sz4c1, .slice sz4a2 sz4n2 sz4c2, .bool x.2.2.2.2.2.1.1, .slice sz5a1 sz5n1 sz5c1, .slice sz5a2 sz5n2 sz5c2]] w _
  have HX : More ((w.alloc (.cells #[.bool x.1.1.1, .slice z0a1 z0n1 z0c1, .slice z0a2 z0n2 z0c2, .bool x.2.1.1.1, .slice z1a1 z1n1 z1c1, .slice z1a2 z1n2 z1c2, .bool x.2.2.1.1.1, .slice z2a1 z2n1 z2c1, .slice z2a2 z2n2 z2c2, .bool x.2.2.2.1.1.1, .slice z3a1 z3n1 z3c1, .slice z3a2 z3n2 z3c2, .bool x.2.2.2.2.1.1.1, .slice z4a1 z4n1 z4c1, .slice z4a2 z4n2 z4c2, .bool x.2.2.2.2.2.1.1, .slice z5a1 z5n1 z5c1, .slice z5a2 z5n2 z5c2] 102)).alloc (.cells #[.bool x.1.1.1, .slice sz0a1 sz0n1 sz0c1, .slice sz0a2 sz0n2 sz0c2, .bool x.2.1.1.1, .slice sz1a1 sz1n1 sz1c1, .slice sz1a2 sz1n2 sz1c2, .bool x.2.2.1.1.1, .slice sz2a1 sz2n1 sz2c1, .slice sz2a2 sz2n2 sz2c2, .bool x.2.2.2.1.1.1, .slice sz3a1 sz3n1 sz3c1, .slice sz3a2 sz3n2 sz3c2, .bool x.2.2.2.2.1.1.1, .slice sz4a1 sz4n1 sz4c1, .slice sz4a2 sz4n2 sz4c2, .bool x.2.2.2.2.2.1.1, .slice sz5a1 sz5n1 sz5c1, .slice sz5a2 sz5n2 sz5c2] 102)) ((w.alloc (.cells #[.bool x.1.1.1, .slice z0a1 z0n1 z0c1, .slice z0a2 z0n2 z0c2, .bool x.2.1.1.1, .slice z1a1 z1n1 z1c1, .slice z1a2 z1n2 z1c2, .bool x.2.2.1.1.1, .slice z2a1 z2n1 z2c1, .slice z2a2 z2n2 z2c2, .bool x.2.2.2.1.1.1, .slice z3a1 z3n1 z3c1, .slice z3a2 z3n2 z3c2, .bool x.2.2.2.2.1.1.1, .slice z4a1 z4n1 z4c1, .slice z4a2 z4n2 z4c2, .bool x.2.2.2.2.2.1.1, .slice z5a1 z5n1 z5c1, .slice z5a2 z5n2 z5c2] 102)).alloc (.cells #[.bool x.1.1.1, .slice sz0a1 sz0n1 sz0c1, .slice sz0a2 sz0n2 sz0c2, .bool x.2.1.1.1, .slice sz1a1 sz1n1 sz1c1, .slice sz1a2 sz1n2 sz1c2, .bool x.2.2.1.1.1, .slice sz2a1 sz2n1 sz2c1, .slice sz2a2 sz2n2 sz2c2, .bool x.2.2.2.1.1.1, .slice sz3a1 sz3n1 sz3c1, .slice sz3a2 sz3n2 sz3c2, .bool x.2.2.2.2.1.1.1, .slice sz4a1 sz4n1 sz4c1, .slice sz4a2 sz4n2 sz4c2, .bool x.2.2.2.2.2.1.1, .slice sz5a1 sz5n1 sz5c1, .slice sz5a2 sz5n2 sz5c2] 102)) := More.refl _
  have HB : ∀ w', More ((w.alloc (.cells #[.bool x.1.1.1, .slice z0a1 z0n1 z0c1, .slice z0a2 z0n2 z0c2, .bool x.2.1.1.1, .slice z1a1 z1n1 z1c1, .slice z1a2 z1n2 z1c2, .bool x.2.2.1.1.1, .slice z2a1 z2n1 z2c1, .slice z2a2 z2n2 z2c2, .bool x.2.2.2.1.1.1, .slice z3a1 z3n1 z3c1, .slice z3a2 z3n2 z3c2, .bool x.2.2.2.2.1.1.1, .slice z4a1 z4n1 z4c1, .slice z4a2 z4n2 z4c2, .bool x.2.2.2.2.2.1.1, .slice z5a1 z5n1 z5c1, .slice z5a2 z5n2 z5c2] 102)).alloc (.cells #[.bool x.1.1.1, .slice sz0a1 sz0n1 sz0c1, .slice sz0a2 sz0n2 sz0c2, .bool x.2.1.1.1, .slice sz1a1 sz1n1 sz1c1, .slice sz1a2 sz1n2 sz1c2, .bool x.2.2.1.1.1, .slice sz2a1 sz2n1 sz2c1, .slice sz2a2 sz2n2 sz2c2, .bool x.2.2.2.1.1.1, .slice sz3a1 sz3n1 sz3c1, .slice sz3a2 sz3n2 sz3c2, .bool x.2.2.2.2.1.1.1, .slice sz4a1 sz4n1 sz4c1, .slice sz4a2 sz4n2 sz4c2, .bool x.2.2.2.2.2.1.1, .slice sz5a1 sz5n1 sz5c1, .slice sz5a2 sz5n2 sz5c2] 102)) w' → w'.cell? ⟨w.heap.size, 0, none⟩ = some (.bool x.1.1.1) ∧ w'.cell? ⟨w.heap.size, 1, none⟩ = some (.slice z0a1 z0n1 z0c1) ∧ w'.cell? ⟨w.heap.size, 2, none⟩ = some (.slice z0a2 z0n2 z0c2) ∧ w'.cell? ⟨w.heap.size, 3, none⟩ = some (.bool x.2.1.1.1) ∧ w'.cell? ⟨w.heap.size, 4, none⟩ = some (.slice z1a1 z1n1 z1c1) ∧ w'.cell? ⟨w.heap.size, 5, none⟩ = some (.slice z1a2 z1n2 z1c2) ∧ w'.cell? ⟨w.heap.size, 6, none⟩ = some (.bool x.2.2.1.1.1) ∧ w'.cell? ⟨w.heap.size, 7, none⟩ = some (.slice z2a1 z2n1 z2c1) ∧ w'.cell? ⟨w.heap.size, 8, none⟩ = some (.slice z2a2 z2n2 z2c2) ∧ w'.cell? ⟨w.heap.size, 9, none⟩ = some (.bool x.2.2.2.1.1.1) ∧ w'.cell? ⟨w.heap.size, 10, none⟩ = some (.slice z3a1 z3n1 z3c1) ∧ w'.cell? ⟨w.heap.size, 11, none⟩ = some (.slice z3a2 z3n2 z3c2) ∧ w'.cell? ⟨w.heap.size, 12, none⟩ = some (.bool x.2.2.2.2.1.1.1) ∧ w'.cell? ⟨w.heap.size, 13, none⟩ = some (.slice z4a1 z4n1 z4c1) ∧ w'.cell? ⟨w.heap.size, 14, none⟩ = some (.slice z4a2 z4n2 z4c2) ∧ w'.cell? ⟨w.heap.size, 15, none⟩ = some (.bool x.2.2.2.2.2.1.1) ∧ w'.cell? ⟨w.heap.size, 16, none⟩ = some (.slice z5a1 z5n1 z5c1) ∧ w'.cell? ⟨w.heap.size, 17, none⟩ = some (.slice z5a2 z5n2 z5c2) ∧ (∀ j, w'.frozen? ⟨w.heap.size, j, none⟩ = false) ∧ w'.cell? ⟨w.heap.size + 1, 0, none⟩ = some (.bool x.1.1.1) ∧ w'.cell? ⟨w.heap.size + 1, 1, none⟩ = some (.slice sz0a1 sz0n1 sz0c1) ∧ w'.cell? ⟨w.heap.size + 1, 2, none⟩ = some (.slice sz0a2 sz0n2 sz0c2) ∧ w'.cell? ⟨w.heap.size + 1, 3, none⟩ = some (.bool x.2.1.1.1) ∧ w'.cell? ⟨w.heap.size + 1, 4, none⟩ = some (.slice sz1a1 sz1n1 sz1c1) ∧ w'.cell? ⟨w.heap.size + 1, 5, none⟩ = some (.slice sz1a2 sz1n2 sz1c2) ∧ w'.cell? ⟨w.heap.size + 1, 6, none⟩ = some (.bool x.2.2.1.1.1) ∧ w'.cell? ⟨w.heap.size + 1, 7, none⟩ = some (.slice sz2a1 sz2n1 sz2c1) ∧ w'.cell? ⟨w.heap.size + 1, 8, none⟩ = some (.slice sz2a2 sz2n2 sz2c2) ∧ w'.cell? ⟨w.heap.size + 1, 9, none⟩ = some (.bool x.2.2.2.1.1.1) ∧ w'.cell? ⟨w.heap.size + 1, 10, none⟩ = some (.slice sz3a1 sz3n1 sz3c1) ∧ w'.cell? ⟨w.heap.size + 1, 11, none⟩ = some (.slice sz3a2 sz3n2 sz3c2) ∧ w'.cell? ⟨w.heap.size + 1, 12, none⟩ = some (.bool x.2.2.2.2.1.1.1) ∧ w'.cell? ⟨w.heap.size + 1, 13, none⟩ = some (.slice sz4a1 sz4n1 sz4c1) ∧ w'.cell? ⟨w.heap.size + 1, 14, none⟩ = some (.slice sz4a2 sz4n2 sz4c2) ∧ w'.cell? ⟨w.heap.size + 1, 15, none⟩ = some (.bool x.2.2.2.2.2.1.1) ∧ w'.cell? ⟨w.heap.size + 1, 16, none⟩ = some (.slice sz5a1 sz5n1 sz5c1) ∧ w'.cell? ⟨w.heap.size + 1, 17, none⟩ = some (.slice sz5a2 sz5n2 sz5c2) ∧ (∀ j, w'.frozen? ⟨w.heap.size + 1, j, none⟩ = false) := fun w' h => ⟨box_new (by simp) (More.un h) 0, box_new (by simp) (More.un h) 1, box_new (by simp) (More.un h) 2, box_new (by simp) (More.un h) 3, box_new (by simp) (More.un h) 4, box_new (by simp) (More.un h) 5, box_new (by simp) (More.un h) 6, box_new (by simp) (More.un h) 7, box_new (by simp) (More.un h) 8, box_new (by simp) (More.un h) 9, box_new (by simp) (More.un h) 10, box_new (by simp) (More.un h) 11, box_new (by simp) (More.un h) 12, box_new (by simp) (More.un h) 13, box_new (by simp) (More.un h) 14, box_new (by simp) (More.un h) 15, box_new (by simp) (More.un h) 16, box_new (by simp) (More.un h) 17, fun j => box_free (by simp) (More.un h) j, box_new (by simp) h 0, box_new (by simp) h 1, box_new (by simp) h 2, box_new (by simp) h 3, box_new (by simp) h 4, box_new (by simp) h 5, box_new (by simp) h 6, box_new (by simp) h 7, box_new (by simp) h 8, box_new (by simp) h 9, box_new (by simp) h 10, box_new (by simp) h 11, box_new (by simp) h 12, box_new (by simp) h 13, box_new (by simp) h 14, box_new (by simp) h 15, box_new (by simp) h 16, box_new (by simp) h 17, fun j => box_free (by simp) h j⟩
  go_enter Try.func52, Try.ntmps52
  go_wp2_with fail
  refine (laws_eqRat _ _ x.1 _ (Ty.at_more F0.out mC) (Ty.at_more G0.out mC) (by have := HW.out; unfold wCell  at this; omega)).mono ?_
  rintro e w1 ⟨rfl, hb1⟩; have HX : More ((w.alloc (.cells #[.bool x.1.1.1, .slice z0a1 z0n1 z0c1, .slice z0a2 z0n2 z0c2, .bool x.2.1.1.1, .slice z1a1 z1n1 z1c1, .slice z1a2 z1n2 z1c2, .bool x.2.2.1.1.1, .slice z2a1 z2n1 z2c1, .slice z2a2 z2n2 z2c2, .bool x.2.2.2.1.1.1, .slice z3a1 z3n1 z3c1, .slice z3a2 z3n2 z3c2, .bool x.2.2.2.2.1.1.1, .slice z4a1 z4n1 z4c1, .slice z4a2 z4n2 z4c2, .bool x.2.2.2.2.2.1.1, .slice z5a1 z5n1 z5c1, .slice z5a2 z5n2 z5c2] 102)).alloc (.cells #[.bool x.1.1.1, .slice sz0a1 sz0n1 sz0c1, .slice sz0a2 sz0n2 sz0c2, .bool x.2.1.1.1, .slice sz1a1 sz1n1 sz1c1, .slice sz1a2 sz1n2 sz1c2, .bool x.2.2.1.1.1, .slice sz2a1 sz2n1 sz2c1, .slice sz2a2 sz2n2 sz2c2, .bool x.2.2.2.1.1.1, .slice sz3a1 sz3n1 sz3c1, .slice sz3a2 sz3n2 sz3c2, .bool x.2.2.2.2.1.1.1, .slice sz4a1 sz4n1 sz4c1, .slice sz4a2 sz4n2 sz4c2, .bool x.2.2.2.2.2.1.1, .slice sz5a1 sz5n1 sz5c1, .slice sz5a2 sz5n2 sz5c2] 102)) _ := More.trans (by assumption) hb1; have HBw := HB _ HX
  go_wp2_with fail
  refine (laws_eqRat _ _ x.2.1 _ (Ty.at_more F1.out mC) (Ty.at_more G1.out mC) (by have := HW.out; unfold wCell  at this; omega)).mono ?_
  rintro e w2 ⟨rfl, hb1⟩; have HX : More ((w.alloc (.cells #[.bool x.1.1.1, .slice z0a1 z0n1 z0c1, .slice z0a2 z0n2 z0c2, .bool x.2.1.1.1, .slice z1a1 z1n1 z1c1, .slice z1a2 z1n2 z1c2, .bool x.2.2.1.1.1, .slice z2a1 z2n1 z2c1, .slice z2a2 z2n2 z2c2, .bool x.2.2.2.1.1.1, .slice z3a1 z3n1 z3c1, .slice z3a2 z3n2 z3c2, .bool x.2.2.2.2.1.1.1, .slice z4a1 z4n1 z4c1, .slice z4a2 z4n2 z4c2, .bool x.2.2.2.2.2.1.1, .slice z5a1 z5n1 z5c1, .slice z5a2 z5n2 z5c2] 102)).alloc (.cells #[.bool x.1.1.1, .slice sz0a1 sz0n1 sz0c1, .slice sz0a2 sz0n2 sz0c2, .bool x.2.1.1.1, .slice sz1a1 sz1n1 sz1c1, .slice sz1a2 sz1n2 sz1c2, .bool x.2.2.1.1.1, .slice sz2a1 sz2n1 sz2c1, .slice sz2a2 sz2n2 sz2c2, .bool x.2.2.2.1.1.1, .slice sz3a1 sz3n1 sz3c1, .slice sz3a2 sz3n2 sz3c2, .bool x.2.2.2.2.1.1.1, .slice sz4a1 sz4n1 sz4c1, .slice sz4a2 sz4n2 sz4c2, .bool x.2.2.2.2.2.1.1, .slice sz5a1 sz5n1 sz5c1, .slice sz5a2 sz5n2 sz5c2] 102)) _ := More.trans (by assumption) hb1; have HBw := HB _ HX
  go_wp2_with fail
  refine (laws_eqRat _ _ x.2.2.1 _ (Ty.at_more F2.out mC) (Ty.at_more G2.out mC) (by have := HW.out; unfold wCell  at this; omega)).mono ?_
  rintro e w3 ⟨rfl, hb1⟩; have HX : More ((w.alloc (.cells #[.bool x.1.1.1, .slice z0a1 z0n1 z0c1, .slice z0a2 z0n2 z0c2, .bool x.2.1.1.1, .slice z1a1 z1n1 z1c1, .slice z1a2 z1n2 z1c2, .bool x.2.2.1.1.1, .slice z2a1 z2n1 z2c1, .slice z2a2 z2n2 z2c2, .bool x.2.2.2.1.1.1, .slice z3a1 z3n1 z3c1, .slice z3a2 z3n2 z3c2, .bool x.2.2.2.2.1.1.1, .slice z4a1 z4n1 z4c1, .slice z4a2 z4n2 z4c2, .bool x.2.2.2.2.2.1.1, .slice z5a1 z5n1 z5c1, .slice z5a2 z5n2 z5c2] 102)).alloc (.cells #[.bool x.1.1.1, .slice sz0a1 sz0n1 sz0c1, .slice sz0a2 sz0n2 sz0c2, .bool x.2.1.1.1, .slice sz1a1 sz1n1 sz1c1, .slice sz1a2 sz1n2 sz1c2, .bool x.2.2.1.1.1, .slice sz2a1 sz2n1 sz2c1, .slice sz2a2 sz2n2 sz2c2, .bool x.2.2.2.1.1.1, .slice sz3a1 sz3n1 sz3c1, .slice sz3a2 sz3n2 sz3c2, .bool x.2.2.2.2.1.1.1, .slice sz4a1 sz4n1 sz4c1, .slice sz4a2 sz4n2 sz4c2, .bool x.2.2.2.2.2.1.1, .slice sz5a1 sz5n1 sz5c1, .slice sz5a2 sz5n2 sz5c2] 102)) _ := More.trans (by assumption) hb1; have HBw := HB _ HX
  go_wp2_with fail
  refine (laws_eqRat _ _ x.2.2.2.1 _ (Ty.at_more F3.out mC) (Ty.at_more G3.out mC) (by have := HW.out; unfold wCell  at this; omega)).mono ?_
  rintro e w4 ⟨rfl, hb1⟩; have HX : More ((w.alloc (.cells #[.bool x.1.1.1, .slice z0a1 z0n1 z0c1, .slice z0a2 z0n2 z0c2, .bool x.2.1.1.1, .slice z1a1 z1n1 z1c1, .slice z1a2 z1n2 z1c2, .bool x.2.2.1.1.1, .slice z2a1 z2n1 z2c1, .slice z2a2 z2n2 z2c2, .bool x.2.2.2.1.1.1, .slice z3a1 z3n1 z3c1, .slice z3a2 z3n2 z3c2, .bool x.2.2.2.2.1.1.1, .slice z4a1 z4n1 z4c1, .slice z4a2 z4n2 z4c2, .bool x.2.2.2.2.2.1.1, .slice z5a1 z5n1 z5c1, .slice z5a2 z5n2 z5c2] 102)).alloc (.cells #[.bool x.1.1.1, .slice sz0a1 sz0n1 sz0c1, .slice sz0a2 sz0n2 sz0c2, .bool x.2.1.1.1, .slice sz1a1 sz1n1 sz1c1, .slice sz1a2 sz1n2 sz1c2, .bool x.2.2.1.1.1, .slice sz2a1 sz2n1 sz2c1, .slice sz2a2 sz2n2 sz2c2, .bool x.2.2.2.1.1.1, .slice sz3a1 sz3n1 sz3c1, .slice sz3a2 sz3n2 sz3c2, .bool x.2.2.2.2.1.1.1, .slice sz4a1 sz4n1 sz4c1, .slice sz4a2 sz4n2 sz4c2, .bool x.2.2.2.2.2.1.1, .slice sz5a1 sz5n1 sz5c1, .slice sz5a2 sz5n2 sz5c2] 102)) _ := More.trans (by assumption) hb1; have HBw := HB _ HX
  go_wp2_with fail
  refine (laws_eqRat _ _ x.2.2.2.2.1 _ (Ty.at_more F4.out mC) (Ty.at_more G4.out mC) (by have := HW.out; unfold wCell  at this; omega)).mono ?_
  rintro e w5 ⟨rfl, hb1⟩; have HX : More ((w.alloc (.cells #[.bool x.1.1.1, .slice z0a1 z0n1 z0c1, .slice z0a2 z0n2 z0c2, .bool x.2.1.1.1, .slice z1a1 z1n1 z1c1, .slice z1a2 z1n2 z1c2, .bool x.2.2.1.1.1, .slice z2a1 z2n1 z2c1, .slice z2a2 z2n2 z2c2, .bool x.2.2.2.1.1.1, .slice z3a1 z3n1 z3c1, .slice z3a2 z3n2 z3c2, .bool x.2.2.2.2.1.1.1, .slice z4a1 z4n1 z4c1, .slice z4a2 z4n2 z4c2, .bool x.2.2.2.2.2.1.1, .slice z5a1 z5n1 z5c1, .slice z5a2 z5n2 z5c2] 102)).alloc (.cells #[.bool x.1.1.1, .slice sz0a1 sz0n1 sz0c1, .slice sz0a2 sz0n2 sz0c2, .bool x.2.1.1.1, .slice sz1a1 sz1n1 sz1c1, .slice sz1a2 sz1n2 sz1c2, .bool x.2.2.1.1.1, .slice sz2a1 sz2n1 sz2c1, .slice sz2a2 sz2n2 sz2c2, .bool x.2.2.2.1.1.1, .slice sz3a1 sz3n1 sz3c1, .slice sz3a2 sz3n2 sz3c2, .bool x.2.2.2.2.1.1.1, .slice sz4a1 sz4n1 sz4c1, .slice sz4a2 sz4n2 sz4c2, .bool x.2.2.2.2.2.1.1, .slice sz5a1 sz5n1 sz5c1, .slice sz5a2 sz5n2 sz5c2] 102)) _ := More.trans (by assumption) hb1; have HBw := HB _ HX
  go_wp2_with fail
  refine (laws_eqRat _ _ x.2.2.2.2.2 _ (Ty.at_more F5.out mC) (Ty.at_more G5.out mC) (by have := HW.out; unfold wCell  at this; omega)).mono ?_
  rintro e w6 ⟨rfl, hb1⟩; have HX : More ((w.alloc (.cells #[.bool x.1.1.1, .slice z0a1 z0n1 z0c1, .slice z0a2 z0n2 z0c2, .bool x.2.1.1.1, .slice z1a1 z1n1 z1c1, .slice z1a2 z1n2 z1c2, .bool x.2.2.1.1.1, .slice z2a1 z2n1 z2c1, .slice z2a2 z2n2 z2c2, .bool x.2.2.2.1.1.1, .slice z3a1 z3n1 z3c1, .slice z3a2 z3n2 z3c2, .bool x.2.2.2.2.1.1.1, .slice z4a1 z4n1 z4c1, .slice z4a2 z4n2 z4c2, .bool x.2.2.2.2.2.1.1, .slice z5a1 z5n1 z5c1, .slice z5a2 z5n2 z5c2] 102)).alloc (.cells #[.bool x.1.1.1, .slice sz0a1 sz0n1 sz0c1, .slice sz0a2 sz0n2 sz0c2, .bool x.2.1.1.1, .slice sz1a1 sz1n1 sz1c1, .slice sz1a2 sz1n2 sz1c2, .bool x.2.2.1.1.1, .slice sz2a1 sz2n1 sz2c1, .slice sz2a2 sz2n2 sz2c2, .bool x.2.2.2.1.1.1, .slice sz3a1 sz3n1 sz3c1, .slice sz3a2 sz3n2 sz3c2, .bool x.2.2.2.2.1.1.1, .slice sz4a1 sz4n1 sz4c1, .slice sz4a2 sz4n2 sz4c2, .bool x.2.2.2.2.2.1.1, .slice sz5a1 sz5n1 sz5c1, .slice sz5a2 sz5n2 sz5c2] 102)) _ := More.trans (by assumption) hb1; have HBw := HB _ HX
  go_wp2_with fail
  go_ret
  exact ⟨rfl, mC⟩
end Go.Proofs.Ytbbibfeblaocfaa
/- eqCellS: two values of this kind that read alike are equal. -/
namespace Go.Proofs.Ytbbibfeblaocfaa
open Go.RowKit
set_option maxRecDepth 8000 in
set_option maxHeartbeats 3200000 in
theorem laws_eqCellS (v v' : Value) (l : List (QCell)) (w : World) (hv : tCellS.at w [v] l) (hv' : tCellS.at w [v'] l) (hw : wCellS l ≤ 1048576) :
    Calls Try.prog 101 #[v, v'] w fun e w' => e = .returned (.bool true) ∧ More w w' := by
  obtain ⟨ao, cap, rfl⟩ := sl_len hv
  obtain ⟨ao', cap', rfl⟩ := sl_len hv'
  have HV := Lib.hid hv; clear hv
  have HV' := Lib.hid hv'; clear hv'
  have HW : Hid (l.length + wsum wCell l ≤ 1048576) := Lib.hid hw
  have hl : l.length ≤ 1048576 := by have := HW.out; omega
  clear hw
  obtain ⟨n, hn⟩ : ∃ n, n = l.length := ⟨_, rfl⟩
  rw [← hn] at HV HV' hl ⊢
  have HN := Lib.hid hn; clear hn
  go_enter Try.func101, Try.ntmps101
  go_wp2_with fail
  go_loopw [5] (fun i wr => ∃ k : Nat, k ≤ n ∧ i = .int .i64 k ∧ More w wr) (fun i _ => n - (intOf i).toNat)
  case atStart => exact ⟨0, Nat.zero_le _, rfl, More.refl _⟩
  case round =>
    obtain ⟨k, hk, rfl, hm⟩ := hrel
    by_cases hlt : k < n
    · obtain ⟨b, off, x, c, rfl, hblt, hx, hat, hlen, hr⟩ := el_range (Ty.at_more HV.out hm) (k := k) (by rw [← HN.out]; exact hlt)
      obtain ⟨b', off', y, c', rfl, hblt', hy, hat', hlen', hr'⟩ := el_range (Ty.at_more HV'.out hm) (k := k) (by rw [← HN.out]; exact hlt)
      obtain rfl : y = x := by rw [hx] at hy; cases hy; rfl
      clear hx
      have hlen : c.length = 18 := hlen
      have hlen' : c'.length = 18 := hlen'
      have hr : ∀ w', More wr w' → w'.rangeAt b (off + k * 18) c := hr
      have hr' : ∀ w', More wr w' → w'.rangeAt b' (off' + k * 18) c' := hr'
      have HX := Lib.hid hy; have HA := Lib.hid hat; have HA' := Lib.hid hat'; have HL := Lib.hid hlen; have HL' := Lib.hid hlen'; have HR := Lib.hid hr; have HR' := Lib.hid hr'; clear hy hat hat' hlen hlen' hr hr'
      go_wp2_with fail
      refine wp_region_held_drew (S := (fun w' => More wr w')) (by kernel_rfl) ?_ (fun hHeld => ?_)
      · first | exact More.refl _ | exact mC
      refine tk (v := ?_) 0 ⟨some 17, _, _, _, _, _⟩ rfl ?_ ?_
      rotate_left 2
      · (intro w hSw; (try dsimp only at hSw); go_simp; (try with_reducible rfl))
      (try simp only [Act.put, List.setIfInBounds_toArray, List.set_cons_zero, List.set_cons_succ])
      refine tk (v := ?_) 1 ⟨some 18, _, _, _, _, _⟩ rfl ?_ ?_
      rotate_left 2
      · (intro w hSw; (try dsimp only at hSw); go_simp; (try with_reducible rfl))
      (try simp only [Act.put, List.setIfInBounds_toArray, List.set_cons_zero, List.set_cons_succ])
      refine tk (v := ?_) 2 ⟨some 19, _, _, _, _, _⟩ rfl ?_ ?_
      rotate_left 2
      · (intro w hSw; (try dsimp only at hSw); go_simp; (try with_reducible rfl))
      (try simp only [Act.put, List.setIfInBounds_toArray, List.set_cons_zero, List.set_cons_succ])
      refine tk (v := .agg c.toArray) 3 ⟨some 20, _, _, _, _, _⟩ rfl ?_ (fun w9 hSw => run_ld 102 _ rfl b (off + k * 18) rfl c _ (HR.out w9 hSw) Try.underlying102 rfl (by rw [HL.out]; kernel_rfl))
      (try simp only [Act.put, List.setIfInBounds_toArray, List.set_cons_zero, List.set_cons_succ])
      refine tk (v := ?_) 4 ⟨some 21, _, _, _, _, _⟩ rfl ?_ ?_
      rotate_left 2
      · (intro w hSw; (try dsimp only at hSw); go_simp; (try with_reducible rfl))
      (try simp only [Act.put, List.setIfInBounds_toArray, List.set_cons_zero, List.set_cons_succ])
      refine tk (v := ?_) 5 ⟨some 22, _, _, _, _, _⟩ rfl ?_ ?_
      rotate_left 2
      · (intro w hSw; (try dsimp only at hSw); go_simp; (try with_reducible rfl))
      (try simp only [Act.put, List.setIfInBounds_toArray, List.set_cons_zero, List.set_cons_succ])
      refine tk (v := ?_) 6 ⟨some 23, _, _, _, _, _⟩ rfl ?_ ?_
      rotate_left 2
      · (intro w hSw; (try dsimp only at hSw); go_simp; (try with_reducible rfl))
      (try simp only [Act.put, List.setIfInBounds_toArray, List.set_cons_zero, List.set_cons_succ])
      refine tk (v := .agg c'.toArray) 7 ⟨some 24, _, _, _, _, _⟩ rfl ?_ (fun w9 hSw => run_ld 102 _ rfl b' (off' + k * 18) rfl c' _ (HR'.out w9 hSw) Try.underlying102 rfl (by rw [HL'.out]; kernel_rfl))
      (try simp only [Act.put, List.setIfInBounds_toArray, List.set_cons_zero, List.set_cons_succ])
      refine wpAnyH_ready (rs := [8]) (by kernel_rfl) (by simp) ?_
      refine AllReadyH.cons (o := ⟨some 25, _, _, _, _, _⟩) rfl (fun K hK => ?_) AllReadyH.nil
      go_simp
      (go_at_call 52; refine (laws_eqCell c c' y _ (Ty.at_more HA.out mC) (Ty.at_more HA'.out mC) (by have := wsum_el (f := wCell) HX.out; have := HW.out; omega)).mono ?_; rintro e w1 ⟨rfl, hb1⟩)
      refine hK.out _ _ ?_ (fun hHeld => ?_)
      · first | exact More.refl _ | exact mC
      clear hK K
      (try simp only [Act.put, List.setIfInBounds_toArray, List.set_cons_zero, List.set_cons_succ])
      refine tk (v := ?_) 9 ⟨some 26, _, _, _, _, _⟩ rfl ?_ ?_
      rotate_left 2
      · (intro w hSw; (try dsimp only at hSw); go_simp; (try with_reducible rfl))
      (try simp only [Act.put, List.setIfInBounds_toArray, List.set_cons_zero, List.set_cons_succ])
      refine wpAnyH_done (by kernel_rfl) ?_ _
      go_wp2_with fail
      go_roundw
      case rel => exact ⟨k + 1, by omega, by go_num, mC⟩
      case measure => simp [intOf]; omega
    · go_wp2_with fail
      go_ret
      exact ⟨rfl, hm⟩
end Go.Proofs.Ytbbibfeblaocfaa
/- eqWall: two values of this kind that read alike are equal. -/
namespace Go.Proofs.Ytbbibfeblaocfaa
open Go.RowKit

set_option maxHeartbeats 3200000 in
theorem laws_eqWall (cs ds : List Value) (x : QWall) (w : World) (hv : tWall.at w cs x) (hv' : tWall.at w ds x) (hw : wWall x ≤ 1048576) :
    Calls Try.prog 153 #[.agg cs.toArray, .agg ds.toArray] w fun e w' => e = .returned (.bool true) ∧ More w w' := by
  have HW := Lib.hid hw; clear hw
  obtain ⟨k0, d0, rfl, f0, e0⟩ := at_prod hv
  obtain ⟨k1, d1, rfl, f1, e1⟩ := at_prod e0
  have f2 := e1; clear e1
  obtain ⟨z0a1, z0n1, z0c1, z0a2, z0n2, z0c2, rfl⟩ := sh_Rat f0
  have F0 := Lib.hid f0; clear f0
  obtain ⟨z1a1, z1n1, z1c1, z1a2, z1n2, z1c2, rfl⟩ := sh_Rat f1
  have F1 := Lib.hid f1; clear f1
  obtain ⟨z2a1, z2n1, z2c1, z2a2, z2n2, z2c2, rfl⟩ := sh_Rat f2
  have F2 := Lib.hid f2; clear f2
  obtain ⟨sk0, sd0, rfl, sf0, se0⟩ := at_prod hv'
  obtain ⟨sk1, sd1, rfl, sf1, se1⟩ := at_prod se0
  have sf2 := se1; clear se1
  obtain ⟨sz0a1, sz0n1, sz0c1, sz0a2, sz0n2, sz0c2, rfl⟩ := sh_Rat sf0
  have G0 := Lib.hid sf0; clear sf0
  obtain ⟨sz1a1, sz1n1, sz1c1, sz1a2, sz1n2, sz1c2, rfl⟩ := sh_Rat sf1
  have G1 := Lib.hid sf1; clear sf1
  obtain ⟨sz2a1, sz2n1, sz2c1, sz2a2, sz2n2, sz2c2, rfl⟩ := sh_Rat sf2
  have G2 := Lib.hid sf2; clear sf2
  show Calls Try.prog 153 #[.agg #[.bool x.1.1.1, .slice z0a1 z0n1 z0c1, .slice z0a2 z0n2 z0c2, .bool x.2.1.1.1, .slice z1a1 z1n1 z1c1, .slice z1a2 z1n2 z1c2, .bool x.2.2.1.1, .slice z2a1 z2n1 z2c1, .slice z2a2 z2n2 z2c2], .agg #[.bool x.1.1.1, .slice sz0a1 sz0n1 sz0c1, .slice sz0a2 sz0n2 sz0c2, .bool x.2.1.1.1, .slice sz1a1 sz1n1 sz1c1, .slice sz1a2 sz1n2 sz1c2, .bool x.2.2.1.1, .slice sz2a1 sz2n1 sz2c1, .slice sz2a2 sz2n2 sz2c2]] w _
  have HX : More ((w.alloc (.cells #[.bool x.1.1.1, .slice z0a1 z0n1 z0c1, .slice z0a2 z0n2 z0c2, .bool x.2.1.1.1, .slice z1a1 z1n1 z1c1, .slice z1a2 z1n2 z1c2, .bool x.2.2.1.1, .slice z2a1 z2n1 z2c1, .slice z2a2 z2n2 z2c2] 135)).alloc (.cells #[.bool x.1.1.1, .slice sz0a1 sz0n1 sz0c1, .slice sz0a2 sz0n2 sz0c2, .bool x.2.1.1.1, .slice sz1a1 sz1n1 sz1c1, .slice sz1a2 sz1n2 sz1c2, .bool x.2.2.1.1, .slice sz2a1 sz2n1 sz2c1, .slice sz2a2 sz2n2 sz2c2] 135)) ((w.alloc (.cells #[.bool x.1.1.1, .slice z0a1 z0n1 z0c1, .slice z0a2 z0n2 z0c2, .bool x.2.1.1.1, .slice z1a1 z1n1 z1c1, .slice z1a2 z1n2 z1c2, .bool x.2.2.1.1, .slice z2a1 z2n1 z2c1, .slice z2a2 z2n2 z2c2] 135)).alloc (.cells #[.bool x.1.1.1, .slice sz0a1 sz0n1 sz0c1, .slice sz0a2 sz0n2 sz0c2, .bool x.2.1.1.1, .slice sz1a1 sz1n1 sz1c1, .slice sz1a2 sz1n2 sz1c2, .bool x.2.2.1.1, .slice sz2a1 sz2n1 sz2c1, .slice sz2a2 sz2n2 sz2c2] 135)) := More.refl _
  have HB : ∀ w', More ((w.alloc (.cells #[.bool x.1.1.1, .slice z0a1 z0n1 z0c1, .slice z0a2 z0n2 z0c2, .bool x.2.1.1.1, .slice z1a1 z1n1 z1c1, .slice z1a2 z1n2 z1c2, .bool x.2.2.1.1, .slice z2a1 z2n1 z2c1, .slice z2a2 z2n2 z2c2] 135)).alloc (.cells #[.bool x.1.1.1, .slice sz0a1 sz0n1 sz0c1, .slice sz0a2 sz0n2 sz0c2, .bool x.2.1.1.1, .slice sz1a1 sz1n1 sz1c1, .slice sz1a2 sz1n2 sz1c2, .bool x.2.2.1.1, .slice sz2a1 sz2n1 sz2c1, .slice sz2a2 sz2n2 sz2c2] 135)) w' → w'.cell? ⟨w.heap.size, 0, none⟩ = some (.bool x.1.1.1) ∧ w'.cell? ⟨w.heap.size, 1, none⟩ = some (.slice z0a1 z0n1 z0c1) ∧ w'.cell? ⟨w.heap.size, 2, none⟩ = some (.slice z0a2 z0n2 z0c2) ∧ w'.cell? ⟨w.heap.size, 3, none⟩ = some (.bool x.2.1.1.1) ∧ w'.cell? ⟨w.heap.size, 4, none⟩ = some (.slice z1a1 z1n1 z1c1) ∧ w'.cell? ⟨w.heap.size, 5, none⟩ = some (.slice z1a2 z1n2 z1c2) ∧ w'.cell? ⟨w.heap.size, 6, none⟩ = some (.bool x.2.2.1.1) ∧ w'.cell? ⟨w.heap.size, 7, none⟩ = some (.slice z2a1 z2n1 z2c1) ∧ w'.cell? ⟨w.heap.size, 8, none⟩ = some (.slice z2a2 z2n2 z2c2) ∧ (∀ j, w'.frozen? ⟨w.heap.size, j, none⟩ = false) ∧ w'.cell? ⟨w.heap.size + 1, 0, none⟩ = some (.bool x.1.1.1) ∧ w'.cell? ⟨w.heap.size + 1, 1, none⟩ = some (.slice sz0a1 sz0n1 sz0c1) ∧ w'.cell? ⟨w.heap.size + 1, 2, none⟩ = some (.slice sz0a2 sz0n2 sz0c2) ∧ w'.cell? ⟨w.heap.size + 1, 3, none⟩ = some (.bool x.2.1.1.1) ∧ w'.cell? ⟨w.heap.size + 1, 4, none⟩ = some (.slice sz1a1 sz1n1 sz1c1) ∧ w'.cell? ⟨w.heap.size + 1, 5, none⟩ = some (.slice sz1a2 sz1n2 sz1c2) ∧ w'.cell? ⟨w.heap.size + 1, 6, none⟩ = some (.bool x.2.2.1.1) ∧ w'.cell? ⟨w.heap.size + 1, 7, none⟩ = some (.slice sz2a1 sz2n1 sz2c1) ∧ w'.cell? ⟨w.heap.size + 1, 8, none⟩ = some (.slice sz2a2 sz2n2 sz2c2) ∧ (∀ j, w'.frozen? ⟨w.heap.size + 1, j, none⟩ = false) := fun w' h => ⟨box_new (by simp) (More.un h) 0, box_new (by simp) (More.un h) 1, box_new (by simp) (More.un h) 2, box_new (by simp) (More.un h) 3, box_new (by simp) (More.un h) 4, box_new (by simp) (More.un h) 5, box_new (by simp) (More.un h) 6, box_new (by simp) (More.un h) 7, box_new (by simp) (More.un h) 8, fun j => box_free (by simp) (More.un h) j, box_new (by simp) h 0, box_new (by simp) h 1, box_new (by simp) h 2, box_new (by simp) h 3, box_new (by simp) h 4, box_new (by simp) h 5, box_new (by simp) h 6, box_new (by simp) h 7, box_new (by simp) h 8, fun j => box_free (by simp) h j⟩
  go_enter Try.func153, Try.ntmps153
  go_wp2_with fail
  refine (laws_eqRat _ _ x.1 _ (Ty.at_more F0.out mC) (Ty.at_more G0.out mC) (by have := HW.out; unfold wWall  at this; omega)).mono ?_
  rintro e w1 ⟨rfl, hb1⟩; have HX : More ((w.alloc (.cells #[.bool x.1.1.1, .slice z0a1 z0n1 z0c1, .slice z0a2 z0n2 z0c2, .bool x.2.1.1.1, .slice z1a1 z1n1 z1c1, .slice z1a2 z1n2 z1c2, .bool x.2.2.1.1, .slice z2a1 z2n1 z2c1, .slice z2a2 z2n2 z2c2] 135)).alloc (.cells #[.bool x.1.1.1, .slice sz0a1 sz0n1 sz0c1, .slice sz0a2 sz0n2 sz0c2, .bool x.2.1.1.1, .slice sz1a1 sz1n1 sz1c1, .slice sz1a2 sz1n2 sz1c2, .bool x.2.2.1.1, .slice sz2a1 sz2n1 sz2c1, .slice sz2a2 sz2n2 sz2c2] 135)) _ := More.trans (by assumption) hb1; have HBw := HB _ HX
  go_wp2_with fail
  refine (laws_eqRat _ _ x.2.1 _ (Ty.at_more F1.out mC) (Ty.at_more G1.out mC) (by have := HW.out; unfold wWall  at this; omega)).mono ?_
  rintro e w2 ⟨rfl, hb1⟩; have HX : More ((w.alloc (.cells #[.bool x.1.1.1, .slice z0a1 z0n1 z0c1, .slice z0a2 z0n2 z0c2, .bool x.2.1.1.1, .slice z1a1 z1n1 z1c1, .slice z1a2 z1n2 z1c2, .bool x.2.2.1.1, .slice z2a1 z2n1 z2c1, .slice z2a2 z2n2 z2c2] 135)).alloc (.cells #[.bool x.1.1.1, .slice sz0a1 sz0n1 sz0c1, .slice sz0a2 sz0n2 sz0c2, .bool x.2.1.1.1, .slice sz1a1 sz1n1 sz1c1, .slice sz1a2 sz1n2 sz1c2, .bool x.2.2.1.1, .slice sz2a1 sz2n1 sz2c1, .slice sz2a2 sz2n2 sz2c2] 135)) _ := More.trans (by assumption) hb1; have HBw := HB _ HX
  go_wp2_with fail
  refine (laws_eqRat _ _ x.2.2 _ (Ty.at_more F2.out mC) (Ty.at_more G2.out mC) (by have := HW.out; unfold wWall  at this; omega)).mono ?_
  rintro e w3 ⟨rfl, hb1⟩; have HX : More ((w.alloc (.cells #[.bool x.1.1.1, .slice z0a1 z0n1 z0c1, .slice z0a2 z0n2 z0c2, .bool x.2.1.1.1, .slice z1a1 z1n1 z1c1, .slice z1a2 z1n2 z1c2, .bool x.2.2.1.1, .slice z2a1 z2n1 z2c1, .slice z2a2 z2n2 z2c2] 135)).alloc (.cells #[.bool x.1.1.1, .slice sz0a1 sz0n1 sz0c1, .slice sz0a2 sz0n2 sz0c2, .bool x.2.1.1.1, .slice sz1a1 sz1n1 sz1c1, .slice sz1a2 sz1n2 sz1c2, .bool x.2.2.1.1, .slice sz2a1 sz2n1 sz2c1, .slice sz2a2 sz2n2 sz2c2] 135)) _ := More.trans (by assumption) hb1; have HBw := HB _ HX
  go_wp2_with fail
  go_ret
  exact ⟨rfl, mC⟩
end Go.Proofs.Ytbbibfeblaocfaa
/- eqWallS: two values of this kind that read alike are equal. -/
namespace Go.Proofs.Ytbbibfeblaocfaa
open Go.RowKit
set_option maxHeartbeats 3200000 in
theorem laws_eqWallS (v v' : Value) (l : List (QWall)) (w : World) (hv : tWallS.at w [v] l) (hv' : tWallS.at w [v'] l) (hw : wWallS l ≤ 1048576) :
    Calls Try.prog 102 #[v, v'] w fun e w' => e = .returned (.bool true) ∧ More w w' := by
  obtain ⟨ao, cap, rfl⟩ := sl_len hv
  obtain ⟨ao', cap', rfl⟩ := sl_len hv'
  have HV := Lib.hid hv; clear hv
  have HV' := Lib.hid hv'; clear hv'
  have HW : Hid (l.length + wsum wWall l ≤ 1048576) := Lib.hid hw
  have hl : l.length ≤ 1048576 := by have := HW.out; omega
  clear hw
  obtain ⟨n, hn⟩ : ∃ n, n = l.length := ⟨_, rfl⟩
  rw [← hn] at HV HV' hl ⊢
  have HN := Lib.hid hn; clear hn
  go_enter Try.func102, Try.ntmps102
  go_wp2_with fail
  go_loopw [5] (fun i wr => ∃ k : Nat, k ≤ n ∧ i = .int .i64 k ∧ More w wr) (fun i _ => n - (intOf i).toNat)
  case atStart => exact ⟨0, Nat.zero_le _, rfl, More.refl _⟩
  case round =>
    obtain ⟨k, hk, rfl, hm⟩ := hrel
    by_cases hlt : k < n
    · obtain ⟨b, off, x, a1, n1, c1, a2, n2, c2, a4, n4, c4, a5, n5, c5, a7, n7, c7, a8, n8, c8, rfl, hblt, hx, hat, p0, p1, p2, p3, p4, p5, p6, p7, p8⟩ := el_Wall (Ty.at_more HV.out hm) (k := k) (by rw [← HN.out]; exact hlt)
      obtain ⟨b', off', y, sa1, sn1, sc1, sa2, sn2, sc2, sa4, sn4, sc4, sa5, sn5, sc5, sa7, sn7, sc7, sa8, sn8, sc8, rfl, hblt', hy, hat', q0, q1, q2, q3, q4, q5, q6, q7, q8⟩ := el_Wall (Ty.at_more HV'.out hm) (k := k) (by rw [← HN.out]; exact hlt)
      obtain rfl : y = x := by rw [hx] at hy; cases hy; rfl
      clear hx
      have HX := Lib.hid hy; have HA := Lib.hid hat; have HA' := Lib.hid hat'; clear hy hat hat'
      have C0 : ∀ w', More wr w' → w'.cell? ⟨b, off + k * 9, none⟩ = some (.bool y.1.1.1) := fun w' h => ((bcell h).1 _ _ hblt).trans p0
      have C1 : ∀ w', More wr w' → w'.cell? ⟨b, off + k * 9 + 1, none⟩ = some (.slice a1 n1 c1) := fun w' h => ((bcell h).1 _ _ hblt).trans p1
      have C2 : ∀ w', More wr w' → w'.cell? ⟨b, off + k * 9 + 2, none⟩ = some (.slice a2 n2 c2) := fun w' h => ((bcell h).1 _ _ hblt).trans p2
      have C3 : ∀ w', More wr w' → w'.cell? ⟨b, off + k * 9 + 3, none⟩ = some (.bool y.2.1.1.1) := fun w' h => ((bcell h).1 _ _ hblt).trans p3
      have C4 : ∀ w', More wr w' → w'.cell? ⟨b, off + k * 9 + 4, none⟩ = some (.slice a4 n4 c4) := fun w' h => ((bcell h).1 _ _ hblt).trans p4
      have C5 : ∀ w', More wr w' → w'.cell? ⟨b, off + k * 9 + 5, none⟩ = some (.slice a5 n5 c5) := fun w' h => ((bcell h).1 _ _ hblt).trans p5
      have C6 : ∀ w', More wr w' → w'.cell? ⟨b, off + k * 9 + 6, none⟩ = some (.bool y.2.2.1.1) := fun w' h => ((bcell h).1 _ _ hblt).trans p6
      have C7 : ∀ w', More wr w' → w'.cell? ⟨b, off + k * 9 + 7, none⟩ = some (.slice a7 n7 c7) := fun w' h => ((bcell h).1 _ _ hblt).trans p7
      have C8 : ∀ w', More wr w' → w'.cell? ⟨b, off + k * 9 + 8, none⟩ = some (.slice a8 n8 c8) := fun w' h => ((bcell h).1 _ _ hblt).trans p8
      have D0 : ∀ w', More wr w' → w'.cell? ⟨b', off' + k * 9, none⟩ = some (.bool y.1.1.1) := fun w' h => ((bcell h).1 _ _ hblt').trans q0
      have D1 : ∀ w', More wr w' → w'.cell? ⟨b', off' + k * 9 + 1, none⟩ = some (.slice sa1 sn1 sc1) := fun w' h => ((bcell h).1 _ _ hblt').trans q1
      have D2 : ∀ w', More wr w' → w'.cell? ⟨b', off' + k * 9 + 2, none⟩ = some (.slice sa2 sn2 sc2) := fun w' h => ((bcell h).1 _ _ hblt').trans q2
      have D3 : ∀ w', More wr w' → w'.cell? ⟨b', off' + k * 9 + 3, none⟩ = some (.bool y.2.1.1.1) := fun w' h => ((bcell h).1 _ _ hblt').trans q3
      have D4 : ∀ w', More wr w' → w'.cell? ⟨b', off' + k * 9 + 4, none⟩ = some (.slice sa4 sn4 sc4) := fun w' h => ((bcell h).1 _ _ hblt').trans q4
      have D5 : ∀ w', More wr w' → w'.cell? ⟨b', off' + k * 9 + 5, none⟩ = some (.slice sa5 sn5 sc5) := fun w' h => ((bcell h).1 _ _ hblt').trans q5
      have D6 : ∀ w', More wr w' → w'.cell? ⟨b', off' + k * 9 + 6, none⟩ = some (.bool y.2.2.1.1) := fun w' h => ((bcell h).1 _ _ hblt').trans q6
      have D7 : ∀ w', More wr w' → w'.cell? ⟨b', off' + k * 9 + 7, none⟩ = some (.slice sa7 sn7 sc7) := fun w' h => ((bcell h).1 _ _ hblt').trans q7
      have D8 : ∀ w', More wr w' → w'.cell? ⟨b', off' + k * 9 + 8, none⟩ = some (.slice sa8 sn8 sc8) := fun w' h => ((bcell h).1 _ _ hblt').trans q8
      go_wp2_with fail
      go_region_held3 (fun w' => More wr w') (first | exact More.refl _ | exact mC) (first | (go_at_call 153; refine (laws_eqWall _ _ y _ (Ty.at_more HA.out mC) (Ty.at_more HA'.out mC) (by have := wsum_el (f := wWall) HX.out; have := HW.out; omega)).mono ?_; rintro e w1 ⟨rfl, hb1⟩))
      go_wp2_with fail
      go_roundw
      case rel => exact ⟨k + 1, by omega, by go_num, mC⟩
      case measure => simp [intOf]; omega
    · go_wp2_with fail
      go_ret
      exact ⟨rfl, hm⟩
end Go.Proofs.Ytbbibfeblaocfaa
/- eqDoor: two values of this kind that read alike are equal. -/

namespace Go.Proofs.Ytbbibfeblaocfaa
open Go.RowKit

set_option maxHeartbeats 3200000 in
theorem laws_eqDoor (cs ds : List Value) (x : QDoor) (w : World) (hv : tDoor.at w cs x) (hv' : tDoor.at w ds x) :
    Calls Try.prog 154 #[.agg cs.toArray, .agg ds.toArray] w fun e w' => e = .returned (.bool true) ∧ More w w' := by
  obtain ⟨k0, d0, rfl, f0, e0⟩ := at_prod hv
  have f1 := e0; clear e0
  obtain rfl := sh_int f0
  have F0 := Lib.hid f0; clear f0
  obtain rfl := sh_int f1
  have F1 := Lib.hid f1; clear f1
  obtain ⟨sk0, sd0, rfl, sf0, se0⟩ := at_prod hv'
  have sf1 := se0; clear se0
  obtain rfl := sh_int sf0
  have G0 := Lib.hid sf0; clear sf0
  obtain rfl := sh_int sf1
  have G1 := Lib.hid sf1; clear sf1
  show Calls Try.prog 154 #[.agg #[.int .i64 x.1, .int .i64 x.2], .agg #[.int .i64 x.1, .int .i64 x.2]] w _
  have HX : More ((w.alloc (.cells #[.int .i64 x.1, .int .i64 x.2] 137)).alloc (.cells #[.int .i64 x.1, .int .i64 x.2] 137)) ((w.alloc (.cells #[.int .i64 x.1, .int .i64 x.2] 137)).alloc (.cells #[.int .i64 x.1, .int .i64 x.2] 137)) := More.refl _
  have HB : ∀ w', More ((w.alloc (.cells #[.int .i64 x.1, .int .i64 x.2] 137)).alloc (.cells #[.int .i64 x.1, .int .i64 x.2] 137)) w' → w'.cell? ⟨w.heap.size, 0, none⟩ = some (.int .i64 x.1) ∧ w'.cell? ⟨w.heap.size, 1, none⟩ = some (.int .i64 x.2) ∧ (∀ j, w'.frozen? ⟨w.heap.size, j, none⟩ = false) ∧ w'.cell? ⟨w.heap.size + 1, 0, none⟩ = some (.int .i64 x.1) ∧ w'.cell? ⟨w.heap.size + 1, 1, none⟩ = some (.int .i64 x.2) ∧ (∀ j, w'.frozen? ⟨w.heap.size + 1, j, none⟩ = false) := fun w' h => ⟨box_new (by simp) (More.un h) 0, box_new (by simp) (More.un h) 1, fun j => box_free (by simp) (More.un h) j, box_new (by simp) h 0, box_new (by simp) h 1, fun j => box_free (by simp) h j⟩
  go_enter Try.func154, Try.ntmps154
  go_wp2_with fail
  go_ret
  exact ⟨rfl, mC⟩
end Go.Proofs.Ytbbibfeblaocfaa
/- eqDoorS: two values of this kind that read alike are equal. -/
namespace Go.Proofs.Ytbbibfeblaocfaa
open Go.RowKit
set_option maxHeartbeats 3200000 in
theorem laws_eqDoorS (v v' : Value) (l : List (QDoor)) (w : World) (hv : tDoorS.at w [v] l) (hv' : tDoorS.at w [v'] l) (hw : wDoorS l ≤ 1048576) :
    Calls Try.prog 103 #[v, v'] w fun e w' => e = .returned (.bool true) ∧ More w w' := by
  obtain ⟨ao, cap, rfl⟩ := sl_len hv
  obtain ⟨ao', cap', rfl⟩ := sl_len hv'
  have HV := Lib.hid hv; clear hv
  have HV' := Lib.hid hv'; clear hv'
  have HW : Hid (l.length ≤ 1048576) := Lib.hid hw
  have hl : l.length ≤ 1048576 := by have := HW.out; omega
  clear hw
  obtain ⟨n, hn⟩ : ∃ n, n = l.length := ⟨_, rfl⟩
  rw [← hn] at HV HV' hl ⊢
  have HN := Lib.hid hn; clear hn
  go_enter Try.func103, Try.ntmps103
  go_wp2_with fail
  go_loopw [5] (fun i wr => ∃ k : Nat, k ≤ n ∧ i = .int .i64 k ∧ More w wr) (fun i _ => n - (intOf i).toNat)
  case atStart => exact ⟨0, Nat.zero_le _, rfl, More.refl _⟩
  case round =>
    obtain ⟨k, hk, rfl, hm⟩ := hrel
    by_cases hlt : k < n
    · obtain ⟨b, off, x, rfl, hblt, hx, hat, p0, p1⟩ := el_Door (Ty.at_more HV.out hm) (k := k) (by rw [← HN.out]; exact hlt)
      obtain ⟨b', off', y, rfl, hblt', hy, hat', q0, q1⟩ := el_Door (Ty.at_more HV'.out hm) (k := k) (by rw [← HN.out]; exact hlt)
      obtain rfl : y = x := by rw [hx] at hy; cases hy; rfl
      clear hx
      have HX := Lib.hid hy; have HA := Lib.hid hat; have HA' := Lib.hid hat'; clear hy hat hat'
      have C0 : ∀ w', More wr w' → w'.cell? ⟨b, off + k * 2, none⟩ = some (.int .i64 y.1) := fun w' h => ((bcell h).1 _ _ hblt).trans p0
      have C1 : ∀ w', More wr w' → w'.cell? ⟨b, off + k * 2 + 1, none⟩ = some (.int .i64 y.2) := fun w' h => ((bcell h).1 _ _ hblt).trans p1
      have D0 : ∀ w', More wr w' → w'.cell? ⟨b', off' + k * 2, none⟩ = some (.int .i64 y.1) := fun w' h => ((bcell h).1 _ _ hblt').trans q0
      have D1 : ∀ w', More wr w' → w'.cell? ⟨b', off' + k * 2 + 1, none⟩ = some (.int .i64 y.2) := fun w' h => ((bcell h).1 _ _ hblt').trans q1
      go_wp2_with fail
      go_region_held3 (fun w' => More wr w') (first | exact More.refl _ | exact mC) (first | (go_at_call 154; refine (laws_eqDoor _ _ y _ (Ty.at_more HA.out mC) (Ty.at_more HA'.out mC) ).mono ?_; rintro e w1 ⟨rfl, hb1⟩))
      go_wp2_with fail
      go_roundw
      case rel => exact ⟨k + 1, by omega, by go_num, mC⟩
      case measure => simp [intOf]; omega
    · go_wp2_with fail
      go_ret
      exact ⟨rfl, hm⟩
end Go.Proofs.Ytbbibfeblaocfaa
/- eqSlice: two values of this kind that read alike are equal. -/
namespace Go.Proofs.Ytbbibfeblaocfaa
open Go.RowKit

set_option maxHeartbeats 3200000 in
theorem laws_eqSlice (cs ds : List Value) (x : QSlice) (w : World) (hv : tSlc.at w cs x) (hv' : tSlc.at w ds x) (hw : wSlice x ≤ 1048576) :
    Calls Try.prog 33 #[.agg cs.toArray, .agg ds.toArray] w fun e w' => e = .returned (.bool true) ∧ More w w' := by
  have HW := Lib.hid hw; clear hw
  obtain ⟨k0, d0, rfl, f0, e0⟩ := at_prod hv
  obtain ⟨k1, d1, rfl, f1, e1⟩ := at_prod e0
  obtain ⟨k2, d2, rfl, f2, e2⟩ := at_prod e1
  obtain ⟨k3, d3, rfl, f3, e3⟩ := at_prod e2
  obtain ⟨k4, d4, rfl, f4, e4⟩ := at_prod e3
  obtain ⟨k5, d5, rfl, f5, e5⟩ := at_prod e4
  obtain ⟨k6, d6, rfl, f6, e6⟩ := at_prod e5
  have f7 := e6; clear e6
  obtain rfl := sh_int f0
  have F0 := Lib.hid f0; clear f0
  obtain rfl := sh_bool f1
  have F1 := Lib.hid f1; clear f1
  obtain rfl := sh_Box f2
  have F2 := Lib.hid f2; clear f2
  obtain ⟨z3a0, z3n0, z3c0, rfl⟩ := sh_slice f3
  have F3 := Lib.hid f3; clear f3
  obtain ⟨z4a0, z4n0, z4c0, rfl⟩ := sh_slice f4
  have F4 := Lib.hid f4; clear f4
  obtain ⟨z5a0, z5n0, z5c0, rfl⟩ := sh_slice f5
  have F5 := Lib.hid f5; clear f5
  obtain ⟨z6a0, z6n0, z6c0, rfl⟩ := sh_slice f6
  have F6 := Lib.hid f6; clear f6
  obtain ⟨z7a0, z7n0, z7c0, rfl⟩ := sh_slice f7
  have F7 := Lib.hid f7; clear f7
  obtain ⟨sk0, sd0, rfl, sf0, se0⟩ := at_prod hv'
  obtain ⟨sk1, sd1, rfl, sf1, se1⟩ := at_prod se0
  obtain ⟨sk2, sd2, rfl, sf2, se2⟩ := at_prod se1
  obtain ⟨sk3, sd3, rfl, sf3, se3⟩ := at_prod se2
  obtain ⟨sk4, sd4, rfl, sf4, se4⟩ := at_prod se3
  obtain ⟨sk5, sd5, rfl, sf5, se5⟩ := at_prod se4
  obtain ⟨sk6, sd6, rfl, sf6, se6⟩ := at_prod se5
  have sf7 := se6; clear se6
  obtain rfl := sh_int sf0
  have G0 := Lib.hid sf0; clear sf0
  obtain rfl := sh_bool sf1
  have G1 := Lib.hid sf1; clear sf1
  obtain rfl := sh_Box sf2
  have G2 := Lib.hid sf2; clear sf2
  obtain ⟨sz3a0, sz3n0, sz3c0, rfl⟩ := sh_slice sf3
  have G3 := Lib.hid sf3; clear sf3
  obtain ⟨sz4a0, sz4n0, sz4c0, rfl⟩ := sh_slice sf4
  have G4 := Lib.hid sf4; clear sf4
  obtain ⟨sz5a0, sz5n0, sz5c0, rfl⟩ := sh_slice sf5
  have G5 := Lib.hid sf5; clear sf5
  obtain ⟨sz6a0, sz6n0, sz6c0, rfl⟩ := sh_slice sf6
  have G6 := Lib.hid sf6; clear sf6
  obtain ⟨sz7a0, sz7n0, sz7c0, rfl⟩ := sh_slice sf7
  have G7 := Lib.hid sf7; clear sf7
  show Calls Try.prog 33 #[.agg #[.int .i64 x.1, .bool x.2.1, .int .i64 x.2.2.1.1.1, .int .i64 x.2.2.1.1.2, .int .i64 x.2.2.1.2.1, .int .i64 x.2.2.1.2.2, .slice z3a0 z3n0 z3c0, .slice z4a0 z4n0 z4c0, .slice z5a0 z5n0 z5c0, .slice z6a0 z6n0 z6c0, .slice z7a0 z7n0 z7c0], .agg #[.int .i64 x.1, .bool x.2.1, .int .i64 x.2.2.1.1.1, .int .i64 x.2.2.1.1.2, .int .i64 x.2.2.1.2.1, .int .i64 x.2.2.1.2.2, .slice sz3a0 sz3n0 sz3c0, .slice sz4a0 sz4n0 sz4c0, .slice sz5a0 sz5n0 sz5c0, .slice sz6a0 sz6n0 sz6c0, .slice sz7a0 sz7n0 sz7c0]] w _
  have HX : More ((w.alloc (.cells #[.int .i64 x.1, .bool x.2.1, .int .i64 x.2.2.1.1.1, .int .i64 x.2.2.1.1.2, .int .i64 x.2.2.1.2.1, .int .i64 x.2.2.1.2.2, .slice z3a0 z3n0 z3c0, .slice z4a0 z4n0 z4c0, .slice z5a0 z5n0 z5c0, .slice z6a0 z6n0 z6c0, .slice z7a0 z7n0 z7c0] 69)).alloc (.cells #[.int .i64 x.1, .bool x.2.1, .int .i64 x.2.2.1.1.1, .int .i64 x.2.2.1.1.2, .int .i64 x.2.2.1.2.1, .int .i64 x.2.2.1.2.2, .slice sz3a0 sz3n0 sz3c0, .slice sz4a0 sz4n0 sz4c0, .slice sz5a0 sz5n0 sz5c0, .slice sz6a0 sz6n0 sz6c0, .slice sz7a0 sz7n0 sz7c0] 69)) ((w.alloc (.cells #[.int .i64 x.1, .bool x.2.1, .int .i64 x.2.2.1.1.1, .int .i64 x.2.2.1.1.2, .int .i64 x.2.2.1.2.1, .int .i64 x.2.2.1.2.2, .slice z3a0 z3n0 z3c0, .slice z4a0 z4n0 z4c0, .slice z5a0 z5n0 z5c0, .slice z6a0 z6n0 z6c0, .slice z7a0 z7n0 z7c0] 69)).alloc (.cells #[.int .i64 x.1, .bool x.2.1, .int .i64 x.2.2.1.1.1, .int .i64 x.2.2.1.1.2, .int .i64 x.2.2.1.2.1, .int .i64 x.2.2.1.2.2, .slice sz3a0 sz3n0 sz3c0, .slice sz4a0 sz4n0 sz4c0, .slice sz5a0 sz5n0 sz5c0, .slice sz6a0 sz6n0 sz6c0, .slice sz7a0 sz7n0 sz7c0] 69)) := More.refl _
  have HB : ∀ w', More ((w.alloc (.cells #[.int .i64 x.1, .bool x.2.1, .int .i64 x.2.2.1.1.1, .int .i64 x.2.2.1.1.2, .int .i64 x.2.2.1.2.1, .int .i64 x.2.2.1.2.2, .slice z3a0 z3n0 z3c0, .slice z4a0 z4n0 z4c0, .slice z5a0 z5n0 z5c0, .slice z6a0 z6n0 z6c0, .slice z7a0 z7n0 z7c0] 69)).alloc (.cells #[.int .i64 x.1, .bool x.2.1, .int .i64 x.2.2.1.1.1, .int .i64 x.2.2.1.1.2, .int .i64 x.2.2.1.2.1, .int .i64 x.2.2.1.2.2, .slice sz3a0 sz3n0 sz3c0, .slice sz4a0 sz4n0 sz4c0, .slice sz5a0 sz5n0 sz5c0, .slice sz6a0 sz6n0 sz6c0, .slice sz7a0 sz7n0 sz7c0] 69)) w' → w'.cell? ⟨w.heap.size, 0, none⟩ = some (.int .i64 x.1) ∧ w'.cell? ⟨w.heap.size, 1, none⟩ = some (.bool x.2.1) ∧ w'.cell? ⟨w.heap.size, 2, none⟩ = some (.int .i64 x.2.2.1.1.1) ∧ w'.cell? ⟨w.heap.size, 3, none⟩ = some (.int .i64 x.2.2.1.1.2) ∧ w'.cell? ⟨w.heap.size, 4, none⟩ = some (.int .i64 x.2.2.1.2.1) ∧ w'.cell? ⟨w.heap.size, 5, none⟩ = some (.int .i64 x.2.2.1.2.2) ∧ w'.cell? ⟨w.heap.size, 6, none⟩ = some (.slice z3a0 z3n0 z3c0) ∧ w'.cell? ⟨w.heap.size, 7, none⟩ = some (.slice z4a0 z4n0 z4c0) ∧ w'.cell? ⟨w.heap.size, 8, none⟩ = some (.slice z5a0 z5n0 z5c0) ∧ w'.cell? ⟨w.heap.size, 9, none⟩ = some (.slice z6a0 z6n0 z6c0) ∧ w'.cell? ⟨w.heap.size, 10, none⟩ = some (.slice z7a0 z7n0 z7c0) ∧ (∀ j, w'.frozen? ⟨w.heap.size, j, none⟩ = false) ∧ w'.cell? ⟨w.heap.size + 1, 0, none⟩ = some (.int .i64 x.1) ∧ w'.cell? ⟨w.heap.size + 1, 1, none⟩ = some (.bool x.2.1) ∧ w'.cell? ⟨w.heap.size + 1, 2, none⟩ = some (.int .i64 x.2.2.1.1.1) ∧ w'.cell? ⟨w.heap.size + 1, 3, none⟩ = some (.int .i64 x.2.2.1.1.2) ∧ w'.cell? ⟨w.heap.size + 1, 4, none⟩ = some (.int .i64 x.2.2.1.2.1) ∧ w'.cell? ⟨w.heap.size + 1, 5, none⟩ = some (.int .i64 x.2.2.1.2.2) ∧ w'.cell? ⟨w.heap.size + 1, 6, none⟩ = some (.slice sz3a0 sz3n0 sz3c0) ∧ w'.cell? ⟨w.heap.size + 1, 7, none⟩ = some (.slice sz4a0 sz4n0 sz4c0) ∧ w'.cell? ⟨w.heap.size + 1, 8, none⟩ = some (.slice sz5a0 sz5n0 sz5c0) ∧ w'.cell? ⟨w.heap.size + 1, 9, none⟩ = some (.slice sz6a0 sz6n0 sz6c0) ∧ w'.cell? ⟨w.heap.size + 1, 10, none⟩ = some (.slice sz7a0 sz7n0 sz7c0) ∧ (∀ j, w'.frozen? ⟨w.heap.size + 1, j, none⟩ = false) := fun w' h => ⟨box_new (by simp) (More.un h) 0, box_new (by simp) (More.un h) 1, box_new (by simp) (More.un h) 2, box_new (by simp) (More.un h) 3, box_new (by simp) (More.un h) 4, box_new (by simp) (More.un h) 5, box_new (by simp) (More.un h) 6, box_new (by simp) (More.un h) 7, box_new (by simp) (More.un h) 8, box_new (by simp) (More.un h) 9, box_new (by simp) (More.un h) 10, fun j => box_free (by simp) (More.un h) j, box_new (by simp) h 0, box_new (by simp) h 1, box_new (by simp) h 2, box_new (by simp) h 3, box_new (by simp) h 4, box_new (by simp) h 5, box_new (by simp) h 6, box_new (by simp) h 7, box_new (by simp) h 8, box_new (by simp) h 9, box_new (by simp) h 10, fun j => box_free (by simp) h j⟩
  go_enter Try.func33, Try.ntmps33
  go_wp2_with fail
  refine (laws_eqBox _ _ x.2.2.1 _ (Ty.at_more F2.out mC) (Ty.at_more G2.out mC) ).mono ?_
  rintro e w3 ⟨rfl, hb1⟩; have HX : More ((w.alloc (.cells #[.int .i64 x.1, .bool x.2.1, .int .i64 x.2.2.1.1.1, .int .i64 x.2.2.1.1.2, .int .i64 x.2.2.1.2.1, .int .i64 x.2.2.1.2.2, .slice z3a0 z3n0 z3c0, .slice z4a0 z4n0 z4c0, .slice z5a0 z5n0 z5c0, .slice z6a0 z6n0 z6c0, .slice z7a0 z7n0 z7c0] 69)).alloc (.cells #[.int .i64 x.1, .bool x.2.1, .int .i64 x.2.2.1.1.1, .int .i64 x.2.2.1.1.2, .int .i64 x.2.2.1.2.1, .int .i64 x.2.2.1.2.2, .slice sz3a0 sz3n0 sz3c0, .slice sz4a0 sz4n0 sz4c0, .slice sz5a0 sz5n0 sz5c0, .slice sz6a0 sz6n0 sz6c0, .slice sz7a0 sz7n0 sz7c0] 69)) _ := More.trans (by assumption) hb1; have HBw := HB _ HX
  go_wp2_with fail
  refine (laws_eqVecSS _ _ x.2.2.2.1 _ (Ty.at_more F3.out mC) (Ty.at_more G3.out mC) (by have := HW.out; unfold wSlice  at this; omega)).mono ?_
  rintro e w4 ⟨rfl, hb1⟩; have HX : More ((w.alloc (.cells #[.int .i64 x.1, .bool x.2.1, .int .i64 x.2.2.1.1.1, .int .i64 x.2.2.1.1.2, .int .i64 x.2.2.1.2.1, .int .i64 x.2.2.1.2.2, .slice z3a0 z3n0 z3c0, .slice z4a0 z4n0 z4c0, .slice z5a0 z5n0 z5c0, .slice z6a0 z6n0 z6c0, .slice z7a0 z7n0 z7c0] 69)).alloc (.cells #[.int .i64 x.1, .bool x.2.1, .int .i64 x.2.2.1.1.1, .int .i64 x.2.2.1.1.2, .int .i64 x.2.2.1.2.1, .int .i64 x.2.2.1.2.2, .slice sz3a0 sz3n0 sz3c0, .slice sz4a0 sz4n0 sz4c0, .slice sz5a0 sz5n0 sz5c0, .slice sz6a0 sz6n0 sz6c0, .slice sz7a0 sz7n0 sz7c0] 69)) _ := More.trans (by assumption) hb1; have HBw := HB _ HX
  go_wp2_with fail
  refine (laws_eqCellS _ _ x.2.2.2.2.1 _ (Ty.at_more F4.out mC) (Ty.at_more G4.out mC) (by have := HW.out; unfold wSlice  at this; omega)).mono ?_
  rintro e w5 ⟨rfl, hb1⟩; have HX : More ((w.alloc (.cells #[.int .i64 x.1, .bool x.2.1, .int .i64 x.2.2.1.1.1, .int .i64 x.2.2.1.1.2, .int .i64 x.2.2.1.2.1, .int .i64 x.2.2.1.2.2, .slice z3a0 z3n0 z3c0, .slice z4a0 z4n0 z4c0, .slice z5a0 z5n0 z5c0, .slice z6a0 z6n0 z6c0, .slice z7a0 z7n0 z7c0] 69)).alloc (.cells #[.int .i64 x.1, .bool x.2.1, .int .i64 x.2.2.1.1.1, .int .i64 x.2.2.1.1.2, .int .i64 x.2.2.1.2.1, .int .i64 x.2.2.1.2.2, .slice sz3a0 sz3n0 sz3c0, .slice sz4a0 sz4n0 sz4c0, .slice sz5a0 sz5n0 sz5c0, .slice sz6a0 sz6n0 sz6c0, .slice sz7a0 sz7n0 sz7c0] 69)) _ := More.trans (by assumption) hb1; have HBw := HB _ HX
  go_wp2_with fail
  refine (laws_eqWallS _ _ x.2.2.2.2.2.1 _ (Ty.at_more F5.out mC) (Ty.at_more G5.out mC) (by have := HW.out; unfold wSlice  at this; omega)).mono ?_
  rintro e w6 ⟨rfl, hb1⟩; have HX : More ((w.alloc (.cells #[.int .i64 x.1, .bool x.2.1, .int .i64 x.2.2.1.1.1, .int .i64 x.2.2.1.1.2, .int .i64 x.2.2.1.2.1, .int .i64 x.2.2.1.2.2, .slice z3a0 z3n0 z3c0, .slice z4a0 z4n0 z4c0, .slice z5a0 z5n0 z5c0, .slice z6a0 z6n0 z6c0, .slice z7a0 z7n0 z7c0] 69)).alloc (.cells #[.int .i64 x.1, .bool x.2.1, .int .i64 x.2.2.1.1.1, .int .i64 x.2.2.1.1.2, .int .i64 x.2.2.1.2.1, .int .i64 x.2.2.1.2.2, .slice sz3a0 sz3n0 sz3c0, .slice sz4a0 sz4n0 sz4c0, .slice sz5a0 sz5n0 sz5c0, .slice sz6a0 sz6n0 sz6c0, .slice sz7a0 sz7n0 sz7c0] 69)) _ := More.trans (by assumption) hb1; have HBw := HB _ HX
  go_wp2_with fail
  refine (laws_eqDoorS _ _ x.2.2.2.2.2.2.1 _ (Ty.at_more F6.out mC) (Ty.at_more G6.out mC) (by have := HW.out; unfold wSlice  at this; omega)).mono ?_
  rintro e w7 ⟨rfl, hb1⟩; have HX : More ((w.alloc (.cells #[.int .i64 x.1, .bool x.2.1, .int .i64 x.2.2.1.1.1, .int .i64 x.2.2.1.1.2, .int .i64 x.2.2.1.2.1, .int .i64 x.2.2.1.2.2, .slice z3a0 z3n0 z3c0, .slice z4a0 z4n0 z4c0, .slice z5a0 z5n0 z5c0, .slice z6a0 z6n0 z6c0, .slice z7a0 z7n0 z7c0] 69)).alloc (.cells #[.int .i64 x.1, .bool x.2.1, .int .i64 x.2.2.1.1.1, .int .i64 x.2.2.1.1.2, .int .i64 x.2.2.1.2.1, .int .i64 x.2.2.1.2.2, .slice sz3a0 sz3n0 sz3c0, .slice sz4a0 sz4n0 sz4c0, .slice sz5a0 sz5n0 sz5c0, .slice sz6a0 sz6n0 sz6c0, .slice sz7a0 sz7n0 sz7c0] 69)) _ := More.trans (by assumption) hb1; have HBw := HB _ HX
  go_wp2_with fail
  refine (laws_eqIntS _ _ x.2.2.2.2.2.2.2 _ (Ty.at_more F7.out mC) (Ty.at_more G7.out mC) (by have := HW.out; unfold wSlice wIntS at this; omega)).mono ?_
  rintro e w8 ⟨rfl, hb1⟩; have HX : More ((w.alloc (.cells #[.int .i64 x.1, .bool x.2.1, .int .i64 x.2.2.1.1.1, .int .i64 x.2.2.1.1.2, .int .i64 x.2.2.1.2.1, .int .i64 x.2.2.1.2.2, .slice z3a0 z3n0 z3c0, .slice z4a0 z4n0 z4c0, .slice z5a0 z5n0 z5c0, .slice z6a0 z6n0 z6c0, .slice z7a0 z7n0 z7c0] 69)).alloc (.cells #[.int .i64 x.1, .bool x.2.1, .int .i64 x.2.2.1.1.1, .int .i64 x.2.2.1.1.2, .int .i64 x.2.2.1.2.1, .int .i64 x.2.2.1.2.2, .slice sz3a0 sz3n0 sz3c0, .slice sz4a0 sz4n0 sz4c0, .slice sz5a0 sz5n0 sz5c0, .slice sz6a0 sz6n0 sz6c0, .slice sz7a0 sz7n0 sz7c0] 69)) _ := More.trans (by assumption) hb1; have HBw := HB _ HX
  go_wp2_with fail
  go_ret
  exact ⟨rfl, mC⟩
end Go.Proofs.Ytbbibfeblaocfaa
