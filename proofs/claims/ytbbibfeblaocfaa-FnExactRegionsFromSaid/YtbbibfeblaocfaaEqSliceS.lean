/- eqSliceS: two values of this kind that read alike are equal. -/
import Derived.Test.YtbbibfeblaocfaaGEqS
import Derived.Test.YtbbibfeblaocfaaGVec
import Derived.Test.YtbbibfeblaocfaaGBase
import Derived.Deep.RegionHeld3
namespace Go.Proofs.Ytbbibfeblaocfaa
open Go.RowKit
set_option maxHeartbeats 3200000 in
theorem laws_eqSliceS (v v' : Value) (l : List (QSlice)) (w : World) (hv : tSlcS.at w [v] l) (hv' : tSlcS.at w [v'] l) (hw : wSliceS l ≤ 1048576) :
    Calls Try.prog 114 #[v, v'] w fun e w' => e = .returned (.bool true) ∧ More w w' := by
  obtain ⟨ao, cap, rfl⟩ := sl_len hv
  obtain ⟨ao', cap', rfl⟩ := sl_len hv'
  have HV := Lib.hid hv; clear hv
  have HV' := Lib.hid hv'; clear hv'
  have HW : Hid (l.length + wsum wSlice l ≤ 1048576) := Lib.hid hw
  have hl : l.length ≤ 1048576 := by have := HW.out; omega
  clear hw
  obtain ⟨n, hn⟩ : ∃ n, n = l.length := ⟨_, rfl⟩
  rw [← hn] at HV HV' hl ⊢
  have HN := Lib.hid hn; clear hn
  go_enter Try.func114, Try.ntmps114
  go_wp2_with fail
  go_loopw [5] (fun i wr => ∃ k : Nat, k ≤ n ∧ i = .int .i64 k ∧ More w wr) (fun i _ => n - (intOf i).toNat)
  case atStart => exact ⟨0, Nat.zero_le _, rfl, More.refl _⟩
  case round =>
    obtain ⟨k, hk, rfl, hm⟩ := hrel
    by_cases hlt : k < n
    · obtain ⟨b, off, x, a6, n6, c6, a7, n7, c7, a8, n8, c8, a9, n9, c9, a10, n10, c10, rfl, hblt, hx, hat, p0, p1, p2, p3, p4, p5, p6, p7, p8, p9, p10⟩ := el_Slice (Ty.at_more HV.out hm) (k := k) (by rw [← HN.out]; exact hlt)
      obtain ⟨b', off', y, sa6, sn6, sc6, sa7, sn7, sc7, sa8, sn8, sc8, sa9, sn9, sc9, sa10, sn10, sc10, rfl, hblt', hy, hat', q0, q1, q2, q3, q4, q5, q6, q7, q8, q9, q10⟩ := el_Slice (Ty.at_more HV'.out hm) (k := k) (by rw [← HN.out]; exact hlt)
      obtain rfl : y = x := by rw [hx] at hy; cases hy; rfl
      clear hx
      have HX := Lib.hid hy; have HA := Lib.hid hat; have HA' := Lib.hid hat'; clear hy hat hat'
      have C0 : ∀ w', More wr w' → w'.cell? ⟨b, off + k * 11, none⟩ = some (.int .i64 y.1) := fun w' h => ((bcell h).1 _ _ hblt).trans p0
      have C1 : ∀ w', More wr w' → w'.cell? ⟨b, off + k * 11 + 1, none⟩ = some (.bool y.2.1) := fun w' h => ((bcell h).1 _ _ hblt).trans p1
      have C2 : ∀ w', More wr w' → w'.cell? ⟨b, off + k * 11 + 2, none⟩ = some (.int .i64 y.2.2.1.1.1) := fun w' h => ((bcell h).1 _ _ hblt).trans p2
      have C3 : ∀ w', More wr w' → w'.cell? ⟨b, off + k * 11 + 3, none⟩ = some (.int .i64 y.2.2.1.1.2) := fun w' h => ((bcell h).1 _ _ hblt).trans p3
      have C4 : ∀ w', More wr w' → w'.cell? ⟨b, off + k * 11 + 4, none⟩ = some (.int .i64 y.2.2.1.2.1) := fun w' h => ((bcell h).1 _ _ hblt).trans p4
      have C5 : ∀ w', More wr w' → w'.cell? ⟨b, off + k * 11 + 5, none⟩ = some (.int .i64 y.2.2.1.2.2) := fun w' h => ((bcell h).1 _ _ hblt).trans p5
      have C6 : ∀ w', More wr w' → w'.cell? ⟨b, off + k * 11 + 6, none⟩ = some (.slice a6 n6 c6) := fun w' h => ((bcell h).1 _ _ hblt).trans p6
      have C7 : ∀ w', More wr w' → w'.cell? ⟨b, off + k * 11 + 7, none⟩ = some (.slice a7 n7 c7) := fun w' h => ((bcell h).1 _ _ hblt).trans p7
      have C8 : ∀ w', More wr w' → w'.cell? ⟨b, off + k * 11 + 8, none⟩ = some (.slice a8 n8 c8) := fun w' h => ((bcell h).1 _ _ hblt).trans p8
      have C9 : ∀ w', More wr w' → w'.cell? ⟨b, off + k * 11 + 9, none⟩ = some (.slice a9 n9 c9) := fun w' h => ((bcell h).1 _ _ hblt).trans p9
      have C10 : ∀ w', More wr w' → w'.cell? ⟨b, off + k * 11 + 10, none⟩ = some (.slice a10 n10 c10) := fun w' h => ((bcell h).1 _ _ hblt).trans p10
      have D0 : ∀ w', More wr w' → w'.cell? ⟨b', off' + k * 11, none⟩ = some (.int .i64 y.1) := fun w' h => ((bcell h).1 _ _ hblt').trans q0
      have D1 : ∀ w', More wr w' → w'.cell? ⟨b', off' + k * 11 + 1, none⟩ = some (.bool y.2.1) := fun w' h => ((bcell h).1 _ _ hblt').trans q1
      have D2 : ∀ w', More wr w' → w'.cell? ⟨b', off' + k * 11 + 2, none⟩ = some (.int .i64 y.2.2.1.1.1) := fun w' h => ((bcell h).1 _ _ hblt').trans q2
      have D3 : ∀ w', More wr w' → w'.cell? ⟨b', off' + k * 11 + 3, none⟩ = some (.int .i64 y.2.2.1.1.2) := fun w' h => ((bcell h).1 _ _ hblt').trans q3
      have D4 : ∀ w', More wr w' → w'.cell? ⟨b', off' + k * 11 + 4, none⟩ = some (.int .i64 y.2.2.1.2.1) := fun w' h => ((bcell h).1 _ _ hblt').trans q4
      have D5 : ∀ w', More wr w' → w'.cell? ⟨b', off' + k * 11 + 5, none⟩ = some (.int .i64 y.2.2.1.2.2) := fun w' h => ((bcell h).1 _ _ hblt').trans q5
      have D6 : ∀ w', More wr w' → w'.cell? ⟨b', off' + k * 11 + 6, none⟩ = some (.slice sa6 sn6 sc6) := fun w' h => ((bcell h).1 _ _ hblt').trans q6
      have D7 : ∀ w', More wr w' → w'.cell? ⟨b', off' + k * 11 + 7, none⟩ = some (.slice sa7 sn7 sc7) := fun w' h => ((bcell h).1 _ _ hblt').trans q7
      have D8 : ∀ w', More wr w' → w'.cell? ⟨b', off' + k * 11 + 8, none⟩ = some (.slice sa8 sn8 sc8) := fun w' h => ((bcell h).1 _ _ hblt').trans q8
      have D9 : ∀ w', More wr w' → w'.cell? ⟨b', off' + k * 11 + 9, none⟩ = some (.slice sa9 sn9 sc9) := fun w' h => ((bcell h).1 _ _ hblt').trans q9
      have D10 : ∀ w', More wr w' → w'.cell? ⟨b', off' + k * 11 + 10, none⟩ = some (.slice sa10 sn10 sc10) := fun w' h => ((bcell h).1 _ _ hblt').trans q10
      go_wp2_with fail
      go_region_held3 (fun w' => More wr w') (first | exact More.refl _ | exact mC) (first | (go_at_call 33; refine (laws_eqSlice _ _ y _ (Ty.at_more HA.out mC) (Ty.at_more HA'.out mC) (by have := wsum_el (f := wSlice) HX.out; have := HW.out; omega)).mono ?_; rintro e w1 ⟨rfl, hb1⟩))
      go_wp2_with fail
      go_roundw
      case rel => exact ⟨k + 1, by omega, by go_num, mC⟩
      case measure => simp [intOf]; omega
    · go_wp2_with fail
      go_ret
      exact ⟨rfl, hm⟩
end Go.Proofs.Ytbbibfeblaocfaa
