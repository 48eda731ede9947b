/- Several texts laid together; each has its own word at its head. -/
import Derived.Test.YtnndjbomfcacfaaGBase
import Derived.Test.YtnndjbomfcacfaaGVec
import Derived.Deep.RegionHeld3
import Derived.Test.YtnndjbomfcacfaaGHelp
/- szVecS: how much of the room a value of this kind takes. -/
namespace Go.Proofs.Ytnndjbomfcacfaa
open Go.RowKit
set_option maxHeartbeats 400000 in
theorem laws_szVecS' (v : Value) (l : List QV) (left : Int) (w : World) (hv : tVecs.at w [v] l) (h0 : 0 ≤ left) (h1 : left ≤ 1048576) :
    Calls Try.prog 6 #[v, .int .i64 left] w fun e w' => e = .returned (.int .i64 (szI (wVecS l) left)) ∧ More w w' := by
  unfold wVecS
  obtain ⟨ao, cap, rfl, hl⟩ := sl_len63 hv
  clear hv
  obtain ⟨n, hn⟩ : ∃ n, n = l.length := ⟨_, rfl⟩
  rw [← hn] at hl ⊢
  clear hn
  by_cases h : (n : Int) ≤ left
  · go_enter Try.func6, Try.ntmps6
    go_wp2
    go_ret
    exact ⟨ret_int (szI_pos h).symm, More.refl _⟩
  · go_enter Try.func6, Try.ntmps6
    go_wp2
    go_ret
    exact ⟨ret_int (szI_neg (by omega)).symm, More.refl _⟩
end Go.Proofs.Ytnndjbomfcacfaa
/- szVecSS: how much of the room a value of this kind takes. -/
namespace Go.Proofs.Ytnndjbomfcacfaa
open Go.RowKit
set_option maxHeartbeats 1600000 in
theorem laws_szVecSS (v : Value) (l : List (List QV)) (left : Int) (w : World) (hv : tVecSS.at w [v] l) (h0 : 0 ≤ left) (h1 : left ≤ 1048576) :
    Calls Try.prog 27 #[v, .int .i64 left] w fun e w' => e = .returned (.int .i64 (szI (wVecSS l) left)) ∧ More w w' := by
  obtain ⟨ao, cap, rfl, hl⟩ := sl_len63 hv
  have HV := Lib.hid hv; clear hv
  have HW : Hid (wVecSS l = l.length + wsum wVecS l) := Lib.hid rfl
  obtain ⟨n, hn⟩ : ∃ n, n = l.length := ⟨_, rfl⟩
  rw [← hn] at HV HW hl ⊢
  have HN := Lib.hid hn; clear hn
  by_cases hbig : (n : Int) ≤ left
  · go_enter Try.func27, Try.ntmps27
    go_wp2_with fail
    go_loopw [1, 5] (fun c i wr => ∃ k s : Nat, k ≤ n ∧ i = .int .i64 k ∧ c = .int .i64 (left - n - s) ∧ (s : Int) ≤ left - n ∧ Hid (s = wsum wVecS (l.take k)) ∧ More w wr) (fun _ i _ => n - (intOf i).toNat)
    case atStart => exact ⟨0, 0, Nat.zero_le _, rfl, by simp, by omega, Lib.hid rfl, More.refl _⟩
    case round =>
      obtain ⟨k, s, hk, rfl, rfl, hs, HS, hm⟩ := hrel
      by_cases hlt : k < n
      · obtain ⟨b, off, x, a0, n0, c0, rfl, hblt, hx, hat, p0⟩ := el_VecS (Ty.at_more HV.out hm) (k := k) (by rw [← HN.out]; exact hlt)
        have HX := Lib.hid hx; have HA := Lib.hid hat; clear hx hat
        go_wp2_with fail
        refine (laws_szVecS' _ x _ _ HA.out (by omega) (by omega)).mono ?_
        rintro e w1 ⟨rfl, b1⟩
        by_cases hg : ((wVecS x : Nat) : Int) ≤ left - n - s
        · rw [szI_pos hg]
          go_wp2_with fail
          go_roundw
          case rel => exact ⟨k + 1, s + wVecS x, by omega, by go_num, by congr 1; omega, by omega, Lib.hid (by rw [wsum_next HX.out, HS.out]), hm.trans b1⟩
          case measure => simp [intOf]; omega
        · rw [szI_neg hg]
          go_wp2_with fail
          go_ret
          exact ⟨ret_int (szI_neg (by have h1 := wsum_next (f := wVecS) HX.out; have h2 := wsum_take wVecS l (k + 1); have := HS.out; have := HW.out; omega)).symm, hm.trans b1⟩
      · go_wp2_with fail
        go_ret
        obtain rfl : k = n := by omega
        exact ⟨ret_int (by have h2 := HS.out; rw [List.take_of_length_le (by rw [← HN.out]; exact Nat.le_refl _)] at h2; have := HW.out; rw [szI_pos (by omega)]; omega), hm⟩
  · go_enter Try.func27, Try.ntmps27
    go_wp2_with fail
    go_ret
    exact ⟨ret_int (szI_neg (by have := HW.out; omega)).symm, More.refl _⟩
end Go.Proofs.Ytnndjbomfcacfaa
/- szCell: how much of the room a value of this kind takes. -/
namespace Go.Proofs.Ytnndjbomfcacfaa
open Go.RowKit

set_option maxHeartbeats 1600000 in
theorem laws_szCell (cs : List Value) (x : QCell) (left : Int) (w : World) (hv : tCell.at w cs x) (h0 : 0 ≤ left) (h1 : left ≤ 1048576) :
    Calls Try.prog 16 #[.agg cs.toArray, .int .i64 left] w fun e w' => e = .returned (.int .i64 (szI (wCell x) left)) ∧ More w w' := by
  obtain ⟨k0, d0, rfl, f0, e0⟩ := at_prod hv
  obtain ⟨k1, d1, rfl, f1, e1⟩ := at_prod e0
  obtain ⟨k2, d2, rfl, f2, e2⟩ := at_prod e1
  obtain ⟨k3, d3, rfl, f3, e3⟩ := at_prod e2
  obtain ⟨k4, d4, rfl, f4, e4⟩ := at_prod e3
  have f5 := e4; clear e4
  obtain ⟨z0a1, z0n1, z0c1, z0a2, z0n2, z0c2, rfl⟩ := sh_Rat f0
  have F0 := Lib.hid f0; clear f0
  obtain ⟨z1a1, z1n1, z1c1, z1a2, z1n2, z1c2, rfl⟩ := sh_Rat f1
  have F1 := Lib.hid f1; clear f1
  obtain ⟨z2a1, z2n1, z2c1, z2a2, z2n2, z2c2, rfl⟩ := sh_Rat f2
  have F2 := Lib.hid f2; clear f2
  obtain ⟨z3a1, z3n1, z3c1, z3a2, z3n2, z3c2, rfl⟩ := sh_Rat f3
  have F3 := Lib.hid f3; clear f3
  obtain ⟨z4a1, z4n1, z4c1, z4a2, z4n2, z4c2, rfl⟩ := sh_Rat f4
  have F4 := Lib.hid f4; clear f4
  obtain ⟨z5a1, z5n1, z5c1, z5a2, z5n2, z5c2, rfl⟩ := sh_Rat f5
  have F5 := Lib.hid f5; clear f5
  show Calls Try.prog 16 #[.agg #[.bool x.1.1.1, .slice z0a1 z0n1 z0c1, .slice z0a2 z0n2 z0c2, .bool x.2.1.1.1, .slice z1a1 z1n1 z1c1, .slice z1a2 z1n2 z1c2, .bool x.2.2.1.1.1, .slice z2a1 z2n1 z2c1, .slice z2a2 z2n2 z2c2, .bool x.2.2.2.1.1.1, .slice z3a1 z3n1 z3c1, .slice z3a2 z3n2 z3c2, .bool x.2.2.2.2.1.1.1, .slice z4a1 z4n1 z4c1, .slice z4a2 z4n2 z4c2, .bool x.2.2.2.2.2.1.1, .slice z5a1 z5n1 z5c1, .slice z5a2 z5n2 z5c2], .int .i64 left] w _
  have HX : More (w.alloc (.cells #[.bool x.1.1.1, .slice z0a1 z0n1 z0c1, .slice z0a2 z0n2 z0c2, .bool x.2.1.1.1, .slice z1a1 z1n1 z1c1, .slice z1a2 z1n2 z1c2, .bool x.2.2.1.1.1, .slice z2a1 z2n1 z2c1, .slice z2a2 z2n2 z2c2, .bool x.2.2.2.1.1.1, .slice z3a1 z3n1 z3c1, .slice z3a2 z3n2 z3c2, .bool x.2.2.2.2.1.1.1, .slice z4a1 z4n1 z4c1, .slice z4a2 z4n2 z4c2, .bool x.2.2.2.2.2.1.1, .slice z5a1 z5n1 z5c1, .slice z5a2 z5n2 z5c2] 50)) (w.alloc (.cells #[.bool x.1.1.1, .slice z0a1 z0n1 z0c1, .slice z0a2 z0n2 z0c2, .bool x.2.1.1.1, .slice z1a1 z1n1 z1c1, .slice z1a2 z1n2 z1c2, .bool x.2.2.1.1.1, .slice z2a1 z2n1 z2c1, .slice z2a2 z2n2 z2c2, .bool x.2.2.2.1.1.1, .slice z3a1 z3n1 z3c1, .slice z3a2 z3n2 z3c2, .bool x.2.2.2.2.1.1.1, .slice z4a1 z4n1 z4c1, .slice z4a2 z4n2 z4c2, .bool x.2.2.2.2.2.1.1, .slice z5a1 z5n1 z5c1, .slice z5a2 z5n2 z5c2] 50)) := More.refl _
  have HB : ∀ w', More (w.alloc (.cells #[.bool x.1.1.1, .slice z0a1 z0n1 z0c1, .slice z0a2 z0n2 z0c2, .bool x.2.1.1.1, .slice z1a1 z1n1 z1c1, .slice z1a2 z1n2 z1c2, .bool x.2.2.1.1.1, .slice z2a1 z2n1 z2c1, .slice z2a2 z2n2 z2c2, .bool x.2.2.2.1.1.1, .slice z3a1 z3n1 z3c1, .slice z3a2 z3n2 z3c2, .bool x.2.2.2.2.1.1.1, .slice z4a1 z4n1 z4c1, .slice z4a2 z4n2 z4c2, .bool x.2.2.2.2.2.1.1, .slice z5a1 z5n1 z5c1, .slice z5a2 z5n2 z5c2] 50)) w' → w'.cell? ⟨w.heap.size, 0, none⟩ = some (.bool x.1.1.1) ∧ w'.cell? ⟨w.heap.size, 1, none⟩ = some (.slice z0a1 z0n1 z0c1) ∧ w'.cell? ⟨w.heap.size, 2, none⟩ = some (.slice z0a2 z0n2 z0c2) ∧ w'.cell? ⟨w.heap.size, 3, none⟩ = some (.bool x.2.1.1.1) ∧ w'.cell? ⟨w.heap.size, 4, none⟩ = some (.slice z1a1 z1n1 z1c1) ∧ w'.cell? ⟨w.heap.size, 5, none⟩ = some (.slice z1a2 z1n2 z1c2) ∧ w'.cell? ⟨w.heap.size, 6, none⟩ = some (.bool x.2.2.1.1.1) ∧ w'.cell? ⟨w.heap.size, 7, none⟩ = some (.slice z2a1 z2n1 z2c1) ∧ w'.cell? ⟨w.heap.size, 8, none⟩ = some (.slice z2a2 z2n2 z2c2) ∧ w'.cell? ⟨w.heap.size, 9, none⟩ = some (.bool x.2.2.2.1.1.1) ∧ w'.cell? ⟨w.heap.size, 10, none⟩ = some (.slice z3a1 z3n1 z3c1) ∧ w'.cell? ⟨w.heap.size, 11, none⟩ = some (.slice z3a2 z3n2 z3c2) ∧ w'.cell? ⟨w.heap.size, 12, none⟩ = some (.bool x.2.2.2.2.1.1.1) ∧ w'.cell? ⟨w.heap.size, 13, none⟩ = some (.slice z4a1 z4n1 z4c1) ∧ w'.cell? ⟨w.heap.size, 14, none⟩ = some (.slice z4a2 z4n2 z4c2) ∧ w'.cell? ⟨w.heap.size, 15, none⟩ = some (.bool x.2.2.2.2.2.1.1) ∧ w'.cell? ⟨w.heap.size, 16, none⟩ = some (.slice z5a1 z5n1 z5c1) ∧ w'.cell? ⟨w.heap.size, 17, none⟩ = some (.slice z5a2 z5n2 z5c2) ∧ (∀ j, w'.frozen? ⟨w.heap.size, j, none⟩ = false) := fun w' h => ⟨box_new (by simp) h 0, box_new (by simp) h 1, box_new (by simp) h 2, box_new (by simp) h 3, box_new (by simp) h 4, box_new (by simp) h 5, box_new (by simp) h 6, box_new (by simp) h 7, box_new (by simp) h 8, box_new (by simp) h 9, box_new (by simp) h 10, box_new (by simp) h 11, box_new (by simp) h 12, box_new (by simp) h 13, box_new (by simp) h 14, box_new (by simp) h 15, box_new (by simp) h 16, box_new (by simp) h 17, fun j => box_free (by simp) h j⟩
  go_enter Try.func16, Try.ntmps16
  go_wp2_with fail
  refine (laws_szRat _ x.1 _ _ (Ty.at_more F0.out mC) (by omega) (by omega)).mono ?_
  rintro e w1 ⟨rfl, hb1⟩; have HX : More (w.alloc (.cells #[.bool x.1.1.1, .slice z0a1 z0n1 z0c1, .slice z0a2 z0n2 z0c2, .bool x.2.1.1.1, .slice z1a1 z1n1 z1c1, .slice z1a2 z1n2 z1c2, .bool x.2.2.1.1.1, .slice z2a1 z2n1 z2c1, .slice z2a2 z2n2 z2c2, .bool x.2.2.2.1.1.1, .slice z3a1 z3n1 z3c1, .slice z3a2 z3n2 z3c2, .bool x.2.2.2.2.1.1.1, .slice z4a1 z4n1 z4c1, .slice z4a2 z4n2 z4c2, .bool x.2.2.2.2.2.1.1, .slice z5a1 z5n1 z5c1, .slice z5a2 z5n2 z5c2] 50)) _ := More.trans (by assumption) hb1; have HBw := HB _ HX
  by_cases k0 : ((wRat x.1 : Nat) : Int) ≤ left
  rotate_left
  · rw [szI_neg k0]; go_wp2_with fail; go_ret; exact ⟨ret_int (szI_neg (by unfold wCell; omega)).symm, mC⟩
  rw [szI_pos k0]
  have g0 : 0 ≤ left - (wRat x.1 : Nat) := by omega
  go_wp2_with fail
  refine (laws_szRat _ x.2.1 _ _ (Ty.at_more F1.out mC) (by omega) (by omega)).mono ?_
  rintro e w2 ⟨rfl, hb1⟩; have HX : More (w.alloc (.cells #[.bool x.1.1.1, .slice z0a1 z0n1 z0c1, .slice z0a2 z0n2 z0c2, .bool x.2.1.1.1, .slice z1a1 z1n1 z1c1, .slice z1a2 z1n2 z1c2, .bool x.2.2.1.1.1, .slice z2a1 z2n1 z2c1, .slice z2a2 z2n2 z2c2, .bool x.2.2.2.1.1.1, .slice z3a1 z3n1 z3c1, .slice z3a2 z3n2 z3c2, .bool x.2.2.2.2.1.1.1, .slice z4a1 z4n1 z4c1, .slice z4a2 z4n2 z4c2, .bool x.2.2.2.2.2.1.1, .slice z5a1 z5n1 z5c1, .slice z5a2 z5n2 z5c2] 50)) _ := More.trans (by assumption) hb1; have HBw := HB _ HX
  by_cases k1 : ((wRat x.2.1 : Nat) : Int) ≤ left - (wRat x.1 : Nat)
  rotate_left
  · rw [szI_neg k1]; go_wp2_with fail; go_ret; exact ⟨ret_int (szI_neg (by unfold wCell; omega)).symm, mC⟩
  rw [szI_pos k1]
  have g1 : 0 ≤ left - (wRat x.1 : Nat) - (wRat x.2.1 : Nat) := by omega
  go_wp2_with fail
  refine (laws_szRat _ x.2.2.1 _ _ (Ty.at_more F2.out mC) (by omega) (by omega)).mono ?_
  rintro e w3 ⟨rfl, hb1⟩; have HX : More (w.alloc (.cells #[.bool x.1.1.1, .slice z0a1 z0n1 z0c1, .slice z0a2 z0n2 z0c2, .bool x.2.1.1.1, .slice z1a1 z1n1 z1c1, .slice z1a2 z1n2 z1c2, .bool x.2.2.1.1.1, .slice z2a1 z2n1 z2c1, .slice z2a2 z2n2 z2c2, .bool x.2.2.2.1.1.1, .slice z3a1 z3n1 z3c1, .slice z3a2 z3n2 z3c2, .bool x.2.2.2.2.1.1.1, .slice z4a1 z4n1 z4c1, .slice z4a2 z4n2 z4c2, .bool x.2.2.2.2.2.1.1, .slice z5a1 z5n1 z5c1, .slice z5a2 z5n2 z5c2] 50)) _ := More.trans (by assumption) hb1; have HBw := HB _ HX
  by_cases k2 : ((wRat x.2.2.1 : Nat) : Int) ≤ left - (wRat x.1 : Nat) - (wRat x.2.1 : Nat)
  rotate_left
  · rw [szI_neg k2]; go_wp2_with fail; go_ret; exact ⟨ret_int (szI_neg (by unfold wCell; omega)).symm, mC⟩
  rw [szI_pos k2]
  have g2 : 0 ≤ left - (wRat x.1 : Nat) - (wRat x.2.1 : Nat) - (wRat x.2.2.1 : Nat) := by omega
  go_wp2_with fail
  refine (laws_szRat _ x.2.2.2.1 _ _ (Ty.at_more F3.out mC) (by omega) (by omega)).mono ?_
  rintro e w4 ⟨rfl, hb1⟩; have HX : More (w.alloc (.cells #[.bool x.1.1.1, .slice z0a1 z0n1 z0c1, .slice z0a2 z0n2 z0c2, .bool x.2.1.1.1, .slice z1a1 z1n1 z1c1, .slice z1a2 z1n2 z1c2, .bool x.2.2.1.1.1, .slice z2a1 z2n1 z2c1, .slice z2a2 z2n2 z2c2, .bool x.2.2.2.1.1.1, .slice z3a1 z3n1 z3c1, .slice z3a2 z3n2 z3c2, .bool x.2.2.2.2.1.1.1, .slice z4a1 z4n1 z4c1, .slice z4a2 z4n2 z4c2, .bool x.2.2.2.2.2.1.1, .slice z5a1 z5n1 z5c1, .slice z5a2 z5n2 z5c2] 50)) _ := More.trans (by assumption) hb1; have HBw := HB _ HX
  by_cases k3 : ((wRat x.2.2.2.1 : Nat) : Int) ≤ left - (wRat x.1 : Nat) - (wRat x.2.1 : Nat) - (wRat x.2.2.1 : Nat)
  rotate_left
  · rw [szI_neg k3]; go_wp2_with fail; go_ret; exact ⟨ret_int (szI_neg (by unfold wCell; omega)).symm, mC⟩
  rw [szI_pos k3]
  have g3 : 0 ≤ left - (wRat x.1 : Nat) - (wRat x.2.1 : Nat) - (wRat x.2.2.1 : Nat) - (wRat x.2.2.2.1 : Nat) := by omega
  go_wp2_with fail
  refine (laws_szRat _ x.2.2.2.2.1 _ _ (Ty.at_more F4.out mC) (by omega) (by omega)).mono ?_
  rintro e w5 ⟨rfl, hb1⟩; have HX : More (w.alloc (.cells #[.bool x.1.1.1, .slice z0a1 z0n1 z0c1, .slice z0a2 z0n2 z0c2, .bool x.2.1.1.1, .slice z1a1 z1n1 z1c1, .slice z1a2 z1n2 z1c2, .bool x.2.2.1.1.1, .slice z2a1 z2n1 z2c1, .slice z2a2 z2n2 z2c2, .bool x.2.2.2.1.1.1, .slice z3a1 z3n1 z3c1, .slice z3a2 z3n2 z3c2, .bool x.2.2.2.2.1.1.1, .slice z4a1 z4n1 z4c1, .slice z4a2 z4n2 z4c2, .bool x.2.2.2.2.2.1.1, .slice z5a1 z5n1 z5c1, .slice z5a2 z5n2 z5c2] 50)) _ := More.trans (by assumption) hb1; have HBw := HB _ HX
  by_cases k4 : ((wRat x.2.2.2.2.1 : Nat) : Int) ≤ left - (wRat x.1 : Nat) - (wRat x.2.1 : Nat) - (wRat x.2.2.1 : Nat) - (wRat x.2.2.2.1 : Nat)
  rotate_left
  · rw [szI_neg k4]; go_wp2_with fail; go_ret; exact ⟨ret_int (szI_neg (by unfold wCell; omega)).symm, mC⟩
  rw [szI_pos k4]
  have g4 : 0 ≤ left - (wRat x.1 : Nat) - (wRat x.2.1 : Nat) - (wRat x.2.2.1 : Nat) - (wRat x.2.2.2.1 : Nat) - (wRat x.2.2.2.2.1 : Nat) := by omega
  go_wp2_with fail
  refine (laws_szRat _ x.2.2.2.2.2 _ _ (Ty.at_more F5.out mC) (by omega) (by omega)).mono ?_
  rintro e w6 ⟨rfl, hb1⟩; have HX : More (w.alloc (.cells #[.bool x.1.1.1, .slice z0a1 z0n1 z0c1, .slice z0a2 z0n2 z0c2, .bool x.2.1.1.1, .slice z1a1 z1n1 z1c1, .slice z1a2 z1n2 z1c2, .bool x.2.2.1.1.1, .slice z2a1 z2n1 z2c1, .slice z2a2 z2n2 z2c2, .bool x.2.2.2.1.1.1, .slice z3a1 z3n1 z3c1, .slice z3a2 z3n2 z3c2, .bool x.2.2.2.2.1.1.1, .slice z4a1 z4n1 z4c1, .slice z4a2 z4n2 z4c2, .bool x.2.2.2.2.2.1.1, .slice z5a1 z5n1 z5c1, .slice z5a2 z5n2 z5c2] 50)) _ := More.trans (by assumption) hb1; have HBw := HB _ HX
  by_cases k5 : ((wRat x.2.2.2.2.2 : Nat) : Int) ≤ left - (wRat x.1 : Nat) - (wRat x.2.1 : Nat) - (wRat x.2.2.1 : Nat) - (wRat x.2.2.2.1 : Nat) - (wRat x.2.2.2.2.1 : Nat)
  rotate_left
  · rw [szI_neg k5]; go_wp2_with fail; go_ret; exact ⟨ret_int (szI_neg (by unfold wCell; omega)).symm, mC⟩
  rw [szI_pos k5]
  have g5 : 0 ≤ left - (wRat x.1 : Nat) - (wRat x.2.1 : Nat) - (wRat x.2.2.1 : Nat) - (wRat x.2.2.2.1 : Nat) - (wRat x.2.2.2.2.1 : Nat) - (wRat x.2.2.2.2.2 : Nat) := by omega
  go_wp2_with fail
  go_ret
  exact ⟨ret_int (by rw [szI_pos (by unfold wCell; omega)]; unfold wCell; omega), mC⟩
end Go.Proofs.Ytnndjbomfcacfaa
/- szCellS: how much of the room a value of this kind takes. -/
namespace Go.Proofs.Ytnndjbomfcacfaa
open Go.RowKit
end Go.Proofs.Ytnndjbomfcacfaa
/- szWall: how much of the room a value of this kind takes. -/
namespace Go.Proofs.Ytnndjbomfcacfaa
open Go.RowKit

end Go.Proofs.Ytnndjbomfcacfaa
/- szWallS: how much of the room a value of this kind takes. -/
namespace Go.Proofs.Ytnndjbomfcacfaa
open Go.RowKit
end Go.Proofs.Ytnndjbomfcacfaa
/- szDoorS: how much of the room a value of this kind takes. -/
namespace Go.Proofs.Ytnndjbomfcacfaa
open Go.RowKit
end Go.Proofs.Ytnndjbomfcacfaa
/- szSlice: how much of the room a value of this kind takes. -/
namespace Go.Proofs.Ytnndjbomfcacfaa
open Go.RowKit

end Go.Proofs.Ytnndjbomfcacfaa
