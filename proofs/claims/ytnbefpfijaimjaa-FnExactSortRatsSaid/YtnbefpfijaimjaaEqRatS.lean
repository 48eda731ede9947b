/- eqRatS: two values of this kind that read alike are equal. -/
import Derived.Test.YtnbefpfijaimjaaGHelp
import Derived.Test.YtnbefpfijaimjaaGVec
import Derived.Test.YtnbefpfijaimjaaGBase
import Derived.Deep.RegionHeld3
namespace Go.Proofs.Ytnbefpfijaimjaa
open Go.RowKit
set_option maxHeartbeats 3200000 in
theorem laws_eqRatS (v v' : Value) (l : List (QR)) (w : World) (hv : tRatS.at w [v] l) (hv' : tRatS.at w [v'] l) (hw : wRatS l ≤ 1048576) :
    Calls Try.prog 8 #[v, v'] w fun e w' => e = .returned (.bool true) ∧ More w w' := by
  obtain ⟨ao, cap, rfl⟩ := sl_len hv
  obtain ⟨ao', cap', rfl⟩ := sl_len hv'
  have HV := Lib.hid hv; clear hv
  have HV' := Lib.hid hv'; clear hv'
  have HW : Hid (l.length + wsum wRat l ≤ 1048576) := Lib.hid hw
  have hl : l.length ≤ 1048576 := by have := HW.out; omega
  clear hw
  obtain ⟨n, hn⟩ : ∃ n, n = l.length := ⟨_, rfl⟩
  rw [← hn] at HV HV' hl ⊢
  have HN := Lib.hid hn; clear hn
  go_enter Try.func8, Try.ntmps8
  go_wp2_with fail
  go_loopw [5] (fun i wr => ∃ k : Nat, k ≤ n ∧ i = .int .i64 k ∧ More w wr) (fun i _ => n - (intOf i).toNat)
  case atStart => exact ⟨0, Nat.zero_le _, rfl, More.refl _⟩
  case round =>
    obtain ⟨k, hk, rfl, hm⟩ := hrel
    by_cases hlt : k < n
    · obtain ⟨b, off, x, a1, n1, c1, a2, n2, c2, rfl, hblt, hx, hat, p0, p1, p2⟩ := el_Rat (Ty.at_more HV.out hm) (k := k) (by rw [← HN.out]; exact hlt)
      obtain ⟨b', off', y, sa1, sn1, sc1, sa2, sn2, sc2, rfl, hblt', hy, hat', q0, q1, q2⟩ := el_Rat (Ty.at_more HV'.out hm) (k := k) (by rw [← HN.out]; exact hlt)
      obtain rfl : y = x := by rw [hx] at hy; cases hy; rfl
      clear hx
      have HX := Lib.hid hy; have HA := Lib.hid hat; have HA' := Lib.hid hat'; clear hy hat hat'
      have C0 : ∀ w', More wr w' → w'.cell? ⟨b, off + k * 3, none⟩ = some (.bool y.1.1) := fun w' h => ((bcell h).1 _ _ hblt).trans p0
      have C1 : ∀ w', More wr w' → w'.cell? ⟨b, off + k * 3 + 1, none⟩ = some (.slice a1 n1 c1) := fun w' h => ((bcell h).1 _ _ hblt).trans p1
      have C2 : ∀ w', More wr w' → w'.cell? ⟨b, off + k * 3 + 2, none⟩ = some (.slice a2 n2 c2) := fun w' h => ((bcell h).1 _ _ hblt).trans p2
      have D0 : ∀ w', More wr w' → w'.cell? ⟨b', off' + k * 3, none⟩ = some (.bool y.1.1) := fun w' h => ((bcell h).1 _ _ hblt').trans q0
      have D1 : ∀ w', More wr w' → w'.cell? ⟨b', off' + k * 3 + 1, none⟩ = some (.slice sa1 sn1 sc1) := fun w' h => ((bcell h).1 _ _ hblt').trans q1
      have D2 : ∀ w', More wr w' → w'.cell? ⟨b', off' + k * 3 + 2, none⟩ = some (.slice sa2 sn2 sc2) := fun w' h => ((bcell h).1 _ _ hblt').trans q2
      go_wp2_with fail
      go_region_held3 (fun w' => More wr w') (first | exact More.refl _ | exact mC) (first | (go_at_call 18; refine (laws_eqRat _ _ y _ (Ty.at_more HA.out mC) (Ty.at_more HA'.out mC) (by have := wsum_el (f := wRat) HX.out; have := HW.out; omega)).mono ?_; rintro e w1 ⟨rfl, hb1⟩))
      go_wp2_with fail
      go_roundw
      case rel => exact ⟨k + 1, by omega, by go_num, mC⟩
      case measure => simp [intOf]; omega
    · go_wp2_with fail
      go_ret
      exact ⟨rfl, hm⟩
end Go.Proofs.Ytnbefpfijaimjaa
