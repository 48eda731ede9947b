/- eqIntSS: two values of this kind that read alike are equal. -/
import Derived.Test.YtbbibfeblaocfaaGVec
import Derived.Test.YtbbibfeblaocfaaGBase
import Derived.Deep.RegionHeld3
namespace Go.Proofs.Ytbbibfeblaocfaa
open Go.RowKit
set_option maxHeartbeats 3200000 in
theorem laws_eqIntSS (v v' : Value) (l : List (List Int)) (w : World) (hv : tIntSS.at w [v] l) (hv' : tIntSS.at w [v'] l) (hw : wIntSS l ≤ 1048576) :
    Calls Try.prog 115 #[v, v'] w fun e w' => e = .returned (.bool true) ∧ More w w' := by
  obtain ⟨ao, cap, rfl⟩ := sl_len hv
  obtain ⟨ao', cap', rfl⟩ := sl_len hv'
  have HV := Lib.hid hv; clear hv
  have HV' := Lib.hid hv'; clear hv'
  have HW : Hid (l.length + wsum wIntS l ≤ 1048576) := Lib.hid hw
  have hl : l.length ≤ 1048576 := by have := HW.out; omega
  clear hw
  obtain ⟨n, hn⟩ : ∃ n, n = l.length := ⟨_, rfl⟩
  rw [← hn] at HV HV' hl ⊢
  have HN := Lib.hid hn; clear hn
  go_enter Try.func115, Try.ntmps115
  go_wp2_with fail
  go_loopw [5] (fun i wr => ∃ k : Nat, k ≤ n ∧ i = .int .i64 k ∧ More w wr) (fun i _ => n - (intOf i).toNat)
  case atStart => exact ⟨0, Nat.zero_le _, rfl, More.refl _⟩
  case round =>
    obtain ⟨k, hk, rfl, hm⟩ := hrel
    by_cases hlt : k < n
    · obtain ⟨b, off, x, a0, n0, c0, rfl, hblt, hx, hat, p0⟩ := el_IntS (Ty.at_more HV.out hm) (k := k) (by rw [← HN.out]; exact hlt)
      obtain ⟨b', off', y, sa0, sn0, sc0, rfl, hblt', hy, hat', q0⟩ := el_IntS (Ty.at_more HV'.out hm) (k := k) (by rw [← HN.out]; exact hlt)
      obtain rfl : y = x := by rw [hx] at hy; cases hy; rfl
      clear hx
      have HX := Lib.hid hy; have HA := Lib.hid hat; have HA' := Lib.hid hat'; clear hy hat hat'
      have C0 : ∀ w', More wr w' → w'.cell? ⟨b, off + k, none⟩ = some (.slice a0 n0 c0) := fun w' h => ((bcell h).1 _ _ hblt).trans p0
      have D0 : ∀ w', More wr w' → w'.cell? ⟨b', off' + k, none⟩ = some (.slice sa0 sn0 sc0) := fun w' h => ((bcell h).1 _ _ hblt').trans q0
      go_wp2_with fail
      go_region_held3 (fun w' => More wr w') (first | exact More.refl _ | exact mC) (first | (go_at_call 41; refine (laws_eqIntS _ _ y _ (Ty.at_more HA.out mC) (Ty.at_more HA'.out mC) (by have := wsum_el (f := wIntS) HX.out; have := HW.out; unfold wIntS at *; omega)).mono ?_; rintro e w1 ⟨rfl, hb1⟩))
      go_wp2_with fail
      go_roundw
      case rel => exact ⟨k + 1, by omega, by go_num, mC⟩
      case measure => simp [intOf]; omega
    · go_wp2_with fail
      go_ret
      exact ⟨rfl, hm⟩
end Go.Proofs.Ytbbibfeblaocfaa
