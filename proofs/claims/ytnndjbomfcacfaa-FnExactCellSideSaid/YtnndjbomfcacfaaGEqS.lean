/- Several texts laid together; each has its own word at its head. -/
import Derived.Test.YtnndjbomfcacfaaGVec
import Derived.Test.YtnndjbomfcacfaaGBase
import Derived.Deep.RegionHeld3
import Derived.Test.YtnndjbomfcacfaaGHelp
import Derived.Test.YtnndjbomfcacfaaLdm
/- eqBox: two values of this kind that read alike are equal. -/

namespace Go.Proofs.Ytnndjbomfcacfaa
open Go.RowKit

end Go.Proofs.Ytnndjbomfcacfaa
/- eqVecSS: two values of this kind that read alike are equal. -/
namespace Go.Proofs.Ytnndjbomfcacfaa
open Go.RowKit
set_option maxHeartbeats 3200000 in
theorem laws_eqVecSS (v v' : Value) (l : List (List QV)) (w : World) (hv : tVecSS.at w [v] l) (hv' : tVecSS.at w [v'] l) (hw : wVecSS l ≤ 1048576) :
    Calls Try.prog 37 #[v, v'] w fun e w' => e = .returned (.bool true) ∧ More w w' := by
  obtain ⟨ao, cap, rfl⟩ := sl_len hv
  obtain ⟨ao', cap', rfl⟩ := sl_len hv'
  have HV := Lib.hid hv; clear hv
  have HV' := Lib.hid hv'; clear hv'
  have HW : Hid (l.length + wsum wVecS l ≤ 1048576) := Lib.hid hw
  have hl : l.length ≤ 1048576 := by have := HW.out; omega
  clear hw
  obtain ⟨n, hn⟩ : ∃ n, n = l.length := ⟨_, rfl⟩
  rw [← hn] at HV HV' hl ⊢
  have HN := Lib.hid hn; clear hn
  go_enter Try.func37, Try.ntmps37
  go_wp2_with fail
  go_loopw [5] (fun i wr => ∃ k : Nat, k ≤ n ∧ i = .int .i64 k ∧ More w wr) (fun i _ => n - (intOf i).toNat)
  case atStart => exact ⟨0, Nat.zero_le _, rfl, More.refl _⟩
  case round =>
    obtain ⟨k, hk, rfl, hm⟩ := hrel
    by_cases hlt : k < n
    · obtain ⟨b, off, x, a0, n0, c0, rfl, hblt, hx, hat, p0⟩ := el_VecS (Ty.at_more HV.out hm) (k := k) (by rw [← HN.out]; exact hlt)
      obtain ⟨b', off', y, sa0, sn0, sc0, rfl, hblt', hy, hat', q0⟩ := el_VecS (Ty.at_more HV'.out hm) (k := k) (by rw [← HN.out]; exact hlt)
      obtain rfl : y = x := by rw [hx] at hy; cases hy; rfl
      clear hx
      have HX := Lib.hid hy; have HA := Lib.hid hat; have HA' := Lib.hid hat'; clear hy hat hat'
      have C0 : ∀ w', More wr w' → w'.cell? ⟨b, off + k, none⟩ = some (.slice a0 n0 c0) := fun w' h => ((bcell h).1 _ _ hblt).trans p0
      have D0 : ∀ w', More wr w' → w'.cell? ⟨b', off' + k, none⟩ = some (.slice sa0 sn0 sc0) := fun w' h => ((bcell h).1 _ _ hblt').trans q0
      go_wp2_with fail
      go_region_held3 (fun w' => More wr w') (first | exact More.refl _ | exact mC) (first | (go_at_call 12; refine (laws_eqVecS _ _ y _ (Ty.at_more HA.out mC) (Ty.at_more HA'.out mC) (by have := wsum_el (f := wVecS) HX.out; have := HW.out; unfold wVecS at *; omega)).mono ?_; rintro e w1 ⟨rfl, hb1⟩))
      go_wp2_with fail
      go_roundw
      case rel => exact ⟨k + 1, by omega, by go_num, mC⟩
      case measure => simp [intOf]; omega
    · go_wp2_with fail
      go_ret
      exact ⟨rfl, hm⟩
end Go.Proofs.Ytnndjbomfcacfaa
/- eqCell: two values of this kind that read alike are equal. -/
namespace Go.Proofs.Ytnndjbomfcacfaa
open Go.RowKit

set_option maxHeartbeats 3200000 in
theorem laws_eqCell (cs ds : List Value) (x : QCell) (w : World) (hv : tCell.at w cs x) (hv' : tCell.at w ds x) (hw : wCell x ≤ 1048576) :
    Calls Try.prog 23 #[.agg cs.toArray, .agg ds.toArray] w fun e w' => e = .returned (.bool true) ∧ More w w' := by
  have HW := Lib.hid hw; clear hw
  obtain ⟨k0, d0, rfl, f0, e0⟩ := at_prod hv
  obtain ⟨k1, d1, rfl, f1, e1⟩ := at_prod e0
  obtain ⟨k2, d2, rfl, f2, e2⟩ := at_prod e1
  obtain ⟨k3, d3, rfl, f3, e3⟩ := at_prod e2
  obtain ⟨k4, d4, rfl, f4, e4⟩ := at_prod e3
  have f5 := e4; clear e4
  obtain ⟨z0a1, z0n1, z0c1, z0a2, z0n2, z0c2, rfl⟩ := sh_Rat f0
  have F0 := Lib.hid f0; clear f0
  obtain ⟨z1a1, z1n1, z1c1, z1a2, z1n2, z1c2, rfl⟩ := sh_Rat f1
  have F1 := Lib.hid f1; clear f1
  obtain ⟨z2a1, z2n1, z2c1, z2a2, z2n2, z2c2, rfl⟩ := sh_Rat f2
  have F2 := Lib.hid f2; clear f2
  obtain ⟨z3a1, z3n1, z3c1, z3a2, z3n2, z3c2, rfl⟩ := sh_Rat f3
  have F3 := Lib.hid f3; clear f3
  obtain ⟨z4a1, z4n1, z4c1, z4a2, z4n2, z4c2, rfl⟩ := sh_Rat f4
  have F4 := Lib.hid f4; clear f4
  obtain ⟨z5a1, z5n1, z5c1, z5a2, z5n2, z5c2, rfl⟩ := sh_Rat f5
  have F5 := Lib.hid f5; clear f5
  obtain ⟨sk0, sd0, rfl, sf0, se0⟩ := at_prod hv'
  obtain ⟨sk1, sd1, rfl, sf1, se1⟩ := at_prod se0
  obtain ⟨sk2, sd2, rfl, sf2, se2⟩ := at_prod se1
  obtain ⟨sk3, sd3, rfl, sf3, se3⟩ := at_prod se2
  obtain ⟨sk4, sd4, rfl, sf4, se4⟩ := at_prod se3
  have sf5 := se4; clear se4
  obtain ⟨sz0a1, sz0n1, sz0c1, sz0a2, sz0n2, sz0c2, rfl⟩ := sh_Rat sf0
  have G0 := Lib.hid sf0; clear sf0
  obtain ⟨sz1a1, sz1n1, sz1c1, sz1a2, sz1n2, sz1c2, rfl⟩ := sh_Rat sf1
  have G1 := Lib.hid sf1; clear sf1
  obtain ⟨sz2a1, sz2n1, sz2c1, sz2a2, sz2n2, sz2c2, rfl⟩ := sh_Rat sf2
  have G2 := Lib.hid sf2; clear sf2
  obtain ⟨sz3a1, sz3n1, sz3c1, sz3a2, sz3n2, sz3c2, rfl⟩ := sh_Rat sf3
  have G3 := Lib.hid sf3; clear sf3
  obtain ⟨sz4a1, sz4n1, sz4c1, sz4a2, sz4n2, sz4c2, rfl⟩ := sh_Rat sf4
  have G4 := Lib.hid sf4; clear sf4
  obtain ⟨sz5a1, sz5n1, sz5c1, sz5a2, sz5n2, sz5c2, rfl⟩ := sh_Rat sf5
  have G5 := Lib.hid sf5; clear sf5
  show Calls Try.prog 23 #[.agg #[.bool x.1.1.1, .slice z0a1 z0n1 z0c1, .slice z0a2 z0n2 z0c2, .bool x.2.1.1.1, .slice z1a1 z1n1 z1c1, .slice z1a2 z1n2 z1c2, .bool x.2.2.1.1.1, .slice z2a1 z2n1 z2c1, .slice z2a2 z2n2 z2c2, .bool x.2.2.2.1.1.1, .slice z3a1 z3n1 z3c1, .slice z3a2 z3n2 z3c2, .bool x.2.2.2.2.1.1.1, .slice z4a1 z4n1 z4c1, .slice z4a2 z4n2 z4c2, .bool x.2.2.2.2.2.1.1, .slice z5a1 z5n1 z5c1, .slice z5a2 z5n2 z5c2], .agg #[.bool x.1.1.1, .slice sz0a1 sz0n1 sz0c1, .slice sz0a2 sz0n2 sz0c2, .bool x.2.1.1.1, .slice sz1a1 sz1n1 sz1c1, .slice sz1a2 sz1n2 sz1c2, .bool x.2.2.1.1.1, .slice sz2a1 sz2n1 sz2c1, .slice sz2a2 sz2n2 sz2c2, .bool x.2.2.2.1.1.1, .slice sz3a1 sz3n1 sz3c1, .slice sz3a2 sz3n2 sz3c2, .bool x.2.2.2.2.1.1.1, .slice sz4a1 sz4n1 sz4c1, .slice sz4a2 sz4n2 sz4c2, .bool x.2.2.2.2.2.1.1, .slice sz5a1 sz5n1 sz5c1, .slice sz5a2 sz5n2 sz5c2]] w _
  have HX : More ((w.alloc (.cells #[.bool x.1.1.1, .slice z0a1 z0n1 z0c1, .slice z0a2 z0n2 z0c2, .bool x.2.1.1.1, .slice z1a1 z1n1 z1c1, .slice z1a2 z1n2 z1c2, .bool x.2.2.1.1.1, .slice z2a1 z2n1 z2c1, .slice z2a2 z2n2 z2c2, .bool x.2.2.2.1.1.1, .slice z3a1 z3n1 z3c1, .slice z3a2 z3n2 z3c2, .bool x.2.2.2.2.1.1.1, .slice z4a1 z4n1 z4c1, .slice z4a2 z4n2 z4c2, .bool x.2.2.2.2.2.1.1, .slice z5a1 z5n1 z5c1, .slice z5a2 z5n2 z5c2] 59)).alloc (.cells #[.bool x.1.1.1, .slice sz0a1 sz0n1 sz0c1, .slice sz0a2 sz0n2 sz0c2, .bool x.2.1.1.1, .slice sz1a1 sz1n1 sz1c1, .slice sz1a2 sz1n2 sz1c2, .bool x.2.2.1.1.1, .slice sz2a1 sz2n1 sz2c1, .slice sz2a2 sz2n2 sz2c2, .bool x.2.2.2.1.1.1, .slice sz3a1 sz3n1 sz3c1, .slice sz3a2 sz3n2 sz3c2, .bool x.2.2.2.2.1.1.1, .slice sz4a1 sz4n1 sz4c1, .slice sz4a2 sz4n2 sz4c2, .bool x.2.2.2.2.2.1.1, .slice sz5a1 sz5n1 sz5c1, .slice sz5a2 sz5n2 sz5c2] 59)) ((w.alloc (.cells #[.bool x.1.1.1, .slice z0a1 z0n1 z0c1, .slice z0a2 z0n2 z0c2, .bool x.2.1.1.1, .slice z1a1 z1n1 z1c1, .slice z1a2 z1n2 z1c2, .bool x.2.2.1.1.1, .slice z2a1 z2n1 z2c1, .slice z2a2 z2n2 z2c2, .bool x.2.2.2.1.1.1, .slice z3a1 z3n1 z3c1, .slice z3a2 z3n2 z3c2, .bool x.2.2.2.2.1.1.1, .slice z4a1 z4n1 z4c1, .slice z4a2 z4n2 z4c2, .bool x.2.2.2.2.2.1.1, .slice z5a1 z5n1 z5c1, .slice z5a2 z5n2 z5c2] 59)).alloc (.cells #[.bool x.1.1.1, .slice sz0a1 sz0n1 sz0c1, .slice sz0a2 sz0n2 sz0c2, .bool x.2.1.1.1, .slice sz1a1 sz1n1 sz1c1, .slice sz1a2 sz1n2 sz1c2, .bool x.2.2.1.1.1, .slice sz2a1 sz2n1 sz2c1, .slice sz2a2 sz2n2 sz2c2, .bool x.2.2.2.1.1.1, .slice sz3a1 sz3n1 sz3c1, .slice sz3a2 sz3n2 sz3c2, .bool x.2.2.2.2.1.1.1, .slice sz4a1 sz4n1 sz4c1, .slice sz4a2 sz4n2 sz4c2, .bool x.2.2.2.2.2.1.1, .slice sz5a1 sz5n1 sz5c1, .slice sz5a2 sz5n2 sz5c2] 59)) := More.refl _
  have HB : ∀ w', More ((w.alloc (.cells #[.bool x.1.1.1, .slice z0a1 z0n1 z0c1, .slice z0a2 z0n2 z0c2, .bool x.2.1.1.1, .slice z1a1 z1n1 z1c1, .slice z1a2 z1n2 z1c2, .bool x.2.2.1.1.1, .slice z2a1 z2n1 z2c1, .slice z2a2 z2n2 z2c2, .bool x.2.2.2.1.1.1, .slice z3a1 z3n1 z3c1, .slice z3a2 z3n2 z3c2, .bool x.2.2.2.2.1.1.1, .slice z4a1 z4n1 z4c1, .slice z4a2 z4n2 z4c2, .bool x.2.2.2.2.2.1.1, .slice z5a1 z5n1 z5c1, .slice z5a2 z5n2 z5c2] 59)).alloc (.cells #[.bool x.1.1.1, .slice sz0a1 sz0n1 sz0c1, .slice sz0a2 sz0n2 sz0c2, .bool x.2.1.1.1, .slice sz1a1 sz1n1 sz1c1, .slice sz1a2 sz1n2 sz1c2, .bool x.2.2.1.1.1, .slice sz2a1 sz2n1 sz2c1, .slice sz2a2 sz2n2 sz2c2, .bool x.2.2.2.1.1.1, .slice sz3a1 sz3n1 sz3c1, .slice sz3a2 sz3n2 sz3c2, .bool x.2.2.2.2.1.1.1, .slice sz4a1 sz4n1 sz4c1, .slice sz4a2 sz4n2 sz4c2, .bool x.2.2.2.2.2.1.1, .slice sz5a1 sz5n1 sz5c1, .slice sz5a2 sz5n2 sz5c2] 59)) w' → w'.cell? ⟨w.heap.size, 0, none⟩ = some (.bool x.1.1.1) ∧ w'.cell? ⟨w.heap.size, 1, none⟩ = some (.slice z0a1 z0n1 z0c1) ∧ w'.cell? ⟨w.heap.size, 2, none⟩ = some (.slice z0a2 z0n2 z0c2) ∧ w'.cell? ⟨w.heap.size, 3, none⟩ = some (.bool x.2.1.1.1) ∧ w'.cell? ⟨w.heap.size, 4, none⟩ = some (.slice z1a1 z1n1 z1c1) ∧ w'.cell? ⟨w.heap.size, 5, none⟩ = some (.slice z1a2 z1n2 z1c2) ∧ w'.cell? ⟨w.heap.size, 6, none⟩ = some (.bool x.2.2.1.1.1) ∧ w'.cell? ⟨w.heap.size, 7, none⟩ = some (.slice z2a1 z2n1 z2c1) ∧ w'.cell? ⟨w.heap.size, 8, none⟩ = some (.slice z2a2 z2n2 z2c2) ∧ w'.cell? ⟨w.heap.size, 9, none⟩ = some (.bool x.2.2.2.1.1.1) ∧ w'.cell? ⟨w.heap.size, 10, none⟩ = some (.slice z3a1 z3n1 z3c1) ∧ w'.cell? ⟨w.heap.size, 11, none⟩ = some (.slice z3a2 z3n2 z3c2) ∧ w'.cell? ⟨w.heap.size, 12, none⟩ = some (.bool x.2.2.2.2.1.1.1) ∧ w'.cell? ⟨w.heap.size, 13, none⟩ = some (.slice z4a1 z4n1 z4c1) ∧ w'.cell? ⟨w.heap.size, 14, none⟩ = some (.slice z4a2 z4n2 z4c2) ∧ w'.cell? ⟨w.heap.size, 15, none⟩ = some (.bool x.2.2.2.2.2.1.1) ∧ w'.cell? ⟨w.heap.size, 16, none⟩ = some (.slice z5a1 z5n1 z5c1) ∧ w'.cell? ⟨w.heap.size, 17, none⟩ = some (.slice z5a2 z5n2 z5c2) ∧ (∀ j, w'.frozen? ⟨w.heap.size, j, none⟩ = false) ∧ w'.cell? ⟨w.heap.size + 1, 0, none⟩ = some (.bool x.1.1.1) ∧ w'.cell? ⟨w.heap.size + 1, 1, none⟩ = some (.slice sz0a1 sz0n1 sz0c1) ∧ w'.cell? ⟨w.heap.size + 1, 2, none⟩ = some (.slice sz0a2 sz0n2 sz0c2) ∧ w'.cell? ⟨w.heap.size + 1, 3, none⟩ = some (.bool x.2.1.1.1) ∧ w'.cell? ⟨w.heap.size + 1, 4, none⟩ = some (.slice sz1a1 sz1n1 sz1c1) ∧ w'.cell? ⟨w.heap.size + 1, 5, none⟩ = some (.slice sz1a2 sz1n2 sz1c2) ∧ w'.cell? ⟨w.heap.size + 1, 6, none⟩ = some (.bool x.2.2.1.1.1) ∧ w'.cell? ⟨w.heap.size + 1, 7, none⟩ = some (.slice sz2a1 sz2n1 sz2c1) ∧ w'.cell? ⟨w.heap.size + 1, 8, none⟩ = some (.slice sz2a2 sz2n2 sz2c2) ∧ w'.cell? ⟨w.heap.size + 1, 9, none⟩ = some (.bool x.2.2.2.1.1.1) ∧ w'.cell? ⟨w.heap.size + 1, 10, none⟩ = some (.slice sz3a1 sz3n1 sz3c1) ∧ w'.cell? ⟨w.heap.size + 1, 11, none⟩ = some (.slice sz3a2 sz3n2 sz3c2) ∧ w'.cell? ⟨w.heap.size + 1, 12, none⟩ = some (.bool x.2.2.2.2.1.1.1) ∧ w'.cell? ⟨w.heap.size + 1, 13, none⟩ = some (.slice sz4a1 sz4n1 sz4c1) ∧ w'.cell? ⟨w.heap.size + 1, 14, none⟩ = some (.slice sz4a2 sz4n2 sz4c2) ∧ w'.cell? ⟨w.heap.size + 1, 15, none⟩ = some (.bool x.2.2.2.2.2.1.1) ∧ w'.cell? ⟨w.heap.size + 1, 16, none⟩ = some (.slice sz5a1 sz5n1 sz5c1) ∧ w'.cell? ⟨w.heap.size + 1, 17, none⟩ = some (.slice sz5a2 sz5n2 sz5c2) ∧ (∀ j, w'.frozen? ⟨w.heap.size + 1, j, none⟩ = false) := fun w' h => ⟨box_new (by simp) (More.un h) 0, box_new (by simp) (More.un h) 1, box_new (by simp) (More.un h) 2, box_new (by simp) (More.un h) 3, box_new (by simp) (More.un h) 4, box_new (by simp) (More.un h) 5, box_new (by simp) (More.un h) 6, box_new (by simp) (More.un h) 7, box_new (by simp) (More.un h) 8, box_new (by simp) (More.un h) 9, box_new (by simp) (More.un h) 10, box_new (by simp) (More.un h) 11, box_new (by simp) (More.un h) 12, box_new (by simp) (More.un h) 13, box_new (by simp) (More.un h) 14, box_new (by simp) (More.un h) 15, box_new (by simp) (More.un h) 16, box_new (by simp) (More.un h) 17, fun j => box_free (by simp) (More.un h) j, box_new (by simp) h 0, box_new (by simp) h 1, box_new (by simp) h 2, box_new (by simp) h 3, box_new (by simp) h 4, box_new (by simp) h 5, box_new (by simp) h 6, box_new (by simp) h 7, box_new (by simp) h 8, box_new (by simp) h 9, box_new (by simp) h 10, box_new (by simp) h 11, box_new (by simp) h 12, box_new (by simp) h 13, box_new (by simp) h 14, box_new (by simp) h 15, box_new (by simp) h 16, box_new (by simp) h 17, fun j => box_free (by simp) h j⟩
  go_enter Try.func23, Try.ntmps23
  go_wp2_with fail
  refine (laws_eqRat _ _ x.1 _ (Ty.at_more F0.out mC) (Ty.at_more G0.out mC) (by have := HW.out; unfold wCell  at this; omega)).mono ?_
  rintro e w1 ⟨rfl, hb1⟩; have HX : More ((w.alloc (.cells #[.bool x.1.1.1, .slice z0a1 z0n1 z0c1, .slice z0a2 z0n2 z0c2, .bool x.2.1.1.1, .slice z1a1 z1n1 z1c1, .slice z1a2 z1n2 z1c2, .bool x.2.2.1.1.1, .slice z2a1 z2n1 z2c1, .slice z2a2 z2n2 z2c2, .bool x.2.2.2.1.1.1, .slice z3a1 z3n1 z3c1, .slice z3a2 z3n2 z3c2, .bool x.2.2.2.2.1.1.1, .slice z4a1 z4n1 z4c1, .slice z4a2 z4n2 z4c2, .bool x.2.2.2.2.2.1.1, .slice z5a1 z5n1 z5c1, .slice z5a2 z5n2 z5c2] 59)).alloc (.cells #[.bool x.1.1.1, .slice sz0a1 sz0n1 sz0c1, .slice sz0a2 sz0n2 sz0c2, .bool x.2.1.1.1, .slice sz1a1 sz1n1 sz1c1, .slice sz1a2 sz1n2 sz1c2, .bool x.2.2.1.1.1, .slice sz2a1 sz2n1 sz2c1, .slice sz2a2 sz2n2 sz2c2, .bool x.2.2.2.1.1.1, .slice sz3a1 sz3n1 sz3c1, .slice sz3a2 sz3n2 sz3c2, .bool x.2.2.2.2.1.1.1, .slice sz4a1 sz4n1 sz4c1, .slice sz4a2 sz4n2 sz4c2, .bool x.2.2.2.2.2.1.1, .slice sz5a1 sz5n1 sz5c1, .slice sz5a2 sz5n2 sz5c2] 59)) _ := More.trans (by assumption) hb1; have HBw := HB _ HX
  go_wp2_with fail
  refine (laws_eqRat _ _ x.2.1 _ (Ty.at_more F1.out mC) (Ty.at_more G1.out mC) (by have := HW.out; unfold wCell  at this; omega)).mono ?_
  rintro e w2 ⟨rfl, hb1⟩; have HX : More ((w.alloc (.cells #[.bool x.1.1.1, .slice z0a1 z0n1 z0c1, .slice z0a2 z0n2 z0c2, .bool x.2.1.1.1, .slice z1a1 z1n1 z1c1, .slice z1a2 z1n2 z1c2, .bool x.2.2.1.1.1, .slice z2a1 z2n1 z2c1, .slice z2a2 z2n2 z2c2, .bool x.2.2.2.1.1.1, .slice z3a1 z3n1 z3c1, .slice z3a2 z3n2 z3c2, .bool x.2.2.2.2.1.1.1, .slice z4a1 z4n1 z4c1, .slice z4a2 z4n2 z4c2, .bool x.2.2.2.2.2.1.1, .slice z5a1 z5n1 z5c1, .slice z5a2 z5n2 z5c2] 59)).alloc (.cells #[.bool x.1.1.1, .slice sz0a1 sz0n1 sz0c1, .slice sz0a2 sz0n2 sz0c2, .bool x.2.1.1.1, .slice sz1a1 sz1n1 sz1c1, .slice sz1a2 sz1n2 sz1c2, .bool x.2.2.1.1.1, .slice sz2a1 sz2n1 sz2c1, .slice sz2a2 sz2n2 sz2c2, .bool x.2.2.2.1.1.1, .slice sz3a1 sz3n1 sz3c1, .slice sz3a2 sz3n2 sz3c2, .bool x.2.2.2.2.1.1.1, .slice sz4a1 sz4n1 sz4c1, .slice sz4a2 sz4n2 sz4c2, .bool x.2.2.2.2.2.1.1, .slice sz5a1 sz5n1 sz5c1, .slice sz5a2 sz5n2 sz5c2] 59)) _ := More.trans (by assumption) hb1; have HBw := HB _ HX
  go_wp2_with fail
  refine (laws_eqRat _ _ x.2.2.1 _ (Ty.at_more F2.out mC) (Ty.at_more G2.out mC) (by have := HW.out; unfold wCell  at this; omega)).mono ?_
  rintro e w3 ⟨rfl, hb1⟩; have HX : More ((w.alloc (.cells #[.bool x.1.1.1, .slice z0a1 z0n1 z0c1, .slice z0a2 z0n2 z0c2, .bool x.2.1.1.1, .slice z1a1 z1n1 z1c1, .slice z1a2 z1n2 z1c2, .bool x.2.2.1.1.1, .slice z2a1 z2n1 z2c1, .slice z2a2 z2n2 z2c2, .bool x.2.2.2.1.1.1, .slice z3a1 z3n1 z3c1, .slice z3a2 z3n2 z3c2, .bool x.2.2.2.2.1.1.1, .slice z4a1 z4n1 z4c1, .slice z4a2 z4n2 z4c2, .bool x.2.2.2.2.2.1.1, .slice z5a1 z5n1 z5c1, .slice z5a2 z5n2 z5c2] 59)).alloc (.cells #[.bool x.1.1.1, .slice sz0a1 sz0n1 sz0c1, .slice sz0a2 sz0n2 sz0c2, .bool x.2.1.1.1, .slice sz1a1 sz1n1 sz1c1, .slice sz1a2 sz1n2 sz1c2, .bool x.2.2.1.1.1, .slice sz2a1 sz2n1 sz2c1, .slice sz2a2 sz2n2 sz2c2, .bool x.2.2.2.1.1.1, .slice sz3a1 sz3n1 sz3c1, .slice sz3a2 sz3n2 sz3c2, .bool x.2.2.2.2.1.1.1, .slice sz4a1 sz4n1 sz4c1, .slice sz4a2 sz4n2 sz4c2, .bool x.2.2.2.2.2.1.1, .slice sz5a1 sz5n1 sz5c1, .slice sz5a2 sz5n2 sz5c2] 59)) _ := More.trans (by assumption) hb1; have HBw := HB _ HX
  go_wp2_with fail
  refine (laws_eqRat _ _ x.2.2.2.1 _ (Ty.at_more F3.out mC) (Ty.at_more G3.out mC) (by have := HW.out; unfold wCell  at this; omega)).mono ?_
  rintro e w4 ⟨rfl, hb1⟩; have HX : More ((w.alloc (.cells #[.bool x.1.1.1, .slice z0a1 z0n1 z0c1, .slice z0a2 z0n2 z0c2, .bool x.2.1.1.1, .slice z1a1 z1n1 z1c1, .slice z1a2 z1n2 z1c2, .bool x.2.2.1.1.1, .slice z2a1 z2n1 z2c1, .slice z2a2 z2n2 z2c2, .bool x.2.2.2.1.1.1, .slice z3a1 z3n1 z3c1, .slice z3a2 z3n2 z3c2, .bool x.2.2.2.2.1.1.1, .slice z4a1 z4n1 z4c1, .slice z4a2 z4n2 z4c2, .bool x.2.2.2.2.2.1.1, .slice z5a1 z5n1 z5c1, .slice z5a2 z5n2 z5c2] 59)).alloc (.cells #[.bool x.1.1.1, .slice sz0a1 sz0n1 sz0c1, .slice sz0a2 sz0n2 sz0c2, .bool x.2.1.1.1, .slice sz1a1 sz1n1 sz1c1, .slice sz1a2 sz1n2 sz1c2, .bool x.2.2.1.1.1, .slice sz2a1 sz2n1 sz2c1, .slice sz2a2 sz2n2 sz2c2, .bool x.2.2.2.1.1.1, .slice sz3a1 sz3n1 sz3c1, .slice sz3a2 sz3n2 sz3c2, .bool x.2.2.2.2.1.1.1, .slice sz4a1 sz4n1 sz4c1, .slice sz4a2 sz4n2 sz4c2, .bool x.2.2.2.2.2.1.1, .slice sz5a1 sz5n1 sz5c1, .slice sz5a2 sz5n2 sz5c2] 59)) _ := More.trans (by assumption) hb1; have HBw := HB _ HX
  go_wp2_with fail
  refine (laws_eqRat _ _ x.2.2.2.2.1 _ (Ty.at_more F4.out mC) (Ty.at_more G4.out mC) (by have := HW.out; unfold wCell  at this; omega)).mono ?_
  rintro e w5 ⟨rfl, hb1⟩; have HX : More ((w.alloc (.cells #[.bool x.1.1.1, .slice z0a1 z0n1 z0c1, .slice z0a2 z0n2 z0c2, .bool x.2.1.1.1, .slice z1a1 z1n1 z1c1, .slice z1a2 z1n2 z1c2, .bool x.2.2.1.1.1, .slice z2a1 z2n1 z2c1, .slice z2a2 z2n2 z2c2, .bool x.2.2.2.1.1.1, .slice z3a1 z3n1 z3c1, .slice z3a2 z3n2 z3c2, .bool x.2.2.2.2.1.1.1, .slice z4a1 z4n1 z4c1, .slice z4a2 z4n2 z4c2, .bool x.2.2.2.2.2.1.1, .slice z5a1 z5n1 z5c1, .slice z5a2 z5n2 z5c2] 59)).alloc (.cells #[.bool x.1.1.1, .slice sz0a1 sz0n1 sz0c1, .slice sz0a2 sz0n2 sz0c2, .bool x.2.1.1.1, .slice sz1a1 sz1n1 sz1c1, .slice sz1a2 sz1n2 sz1c2, .bool x.2.2.1.1.1, .slice sz2a1 sz2n1 sz2c1, .slice sz2a2 sz2n2 sz2c2, .bool x.2.2.2.1.1.1, .slice sz3a1 sz3n1 sz3c1, .slice sz3a2 sz3n2 sz3c2, .bool x.2.2.2.2.1.1.1, .slice sz4a1 sz4n1 sz4c1, .slice sz4a2 sz4n2 sz4c2, .bool x.2.2.2.2.2.1.1, .slice sz5a1 sz5n1 sz5c1, .slice sz5a2 sz5n2 sz5c2] 59)) _ := More.trans (by assumption) hb1; have HBw := HB _ HX
  go_wp2_with fail
  refine (laws_eqRat _ _ x.2.2.2.2.2 _ (Ty.at_more F5.out mC) (Ty.at_more G5.out mC) (by have := HW.out; unfold wCell  at this; omega)).mono ?_
  rintro e w6 ⟨rfl, hb1⟩; have HX : More ((w.alloc (.cells #[.bool x.1.1.1, .slice z0a1 z0n1 z0c1, .slice z0a2 z0n2 z0c2, .bool x.2.1.1.1, .slice z1a1 z1n1 z1c1, .slice z1a2 z1n2 z1c2, .bool x.2.2.1.1.1, .slice z2a1 z2n1 z2c1, .slice z2a2 z2n2 z2c2, .bool x.2.2.2.1.1.1, .slice z3a1 z3n1 z3c1, .slice z3a2 z3n2 z3c2, .bool x.2.2.2.2.1.1.1, .slice z4a1 z4n1 z4c1, .slice z4a2 z4n2 z4c2, .bool x.2.2.2.2.2.1.1, .slice z5a1 z5n1 z5c1, .slice z5a2 z5n2 z5c2] 59)).alloc (.cells #[.bool x.1.1.1, .slice sz0a1 sz0n1 sz0c1, .slice sz0a2 sz0n2 sz0c2, .bool x.2.1.1.1, .slice sz1a1 sz1n1 sz1c1, .slice sz1a2 sz1n2 sz1c2, .bool x.2.2.1.1.1, .slice sz2a1 sz2n1 sz2c1, .slice sz2a2 sz2n2 sz2c2, .bool x.2.2.2.1.1.1, .slice sz3a1 sz3n1 sz3c1, .slice sz3a2 sz3n2 sz3c2, .bool x.2.2.2.2.1.1.1, .slice sz4a1 sz4n1 sz4c1, .slice sz4a2 sz4n2 sz4c2, .bool x.2.2.2.2.2.1.1, .slice sz5a1 sz5n1 sz5c1, .slice sz5a2 sz5n2 sz5c2] 59)) _ := More.trans (by assumption) hb1; have HBw := HB _ HX
  go_wp2_with fail
  go_ret
  exact ⟨rfl, mC⟩
end Go.Proofs.Ytnndjbomfcacfaa
/- eqCellS: two values of this kind that read alike are equal. -/
namespace Go.Proofs.Ytnndjbomfcacfaa
open Go.RowKit
end Go.Proofs.Ytnndjbomfcacfaa
/- eqWall: two values of this kind that read alike are equal. -/
namespace Go.Proofs.Ytnndjbomfcacfaa
open Go.RowKit

end Go.Proofs.Ytnndjbomfcacfaa
/- eqWallS: two values of this kind that read alike are equal. -/
namespace Go.Proofs.Ytnndjbomfcacfaa
open Go.RowKit
end Go.Proofs.Ytnndjbomfcacfaa
/- eqDoor: two values of this kind that read alike are equal. -/

namespace Go.Proofs.Ytnndjbomfcacfaa
open Go.RowKit

end Go.Proofs.Ytnndjbomfcacfaa
/- eqDoorS: two values of this kind that read alike are equal. -/
namespace Go.Proofs.Ytnndjbomfcacfaa
open Go.RowKit
end Go.Proofs.Ytnndjbomfcacfaa
/- eqSlice: two values of this kind that read alike are equal. -/
namespace Go.Proofs.Ytnndjbomfcacfaa
open Go.RowKit

end Go.Proofs.Ytnndjbomfcacfaa
