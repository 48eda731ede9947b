/- eqPointS: two values of this kind that read alike are equal. -/
import Derived.Test.YteihkhniibncnaaEqPoint
import Derived.Test.YteihkhniibncnaaGVec
import Derived.Test.YteihkhniibncnaaGBase
import Derived.Deep.RegionHeld3
namespace Go.Proofs.Yteihkhniibncnaa
open Go.RowKit
set_option maxHeartbeats 3200000 in
theorem laws_eqPointS (v v' : Value) (l : List (QP)) (w : World) (hv : tPointS.at w [v] l) (hv' : tPointS.at w [v'] l) (hw : wPointS l ≤ 67108864 ∧ ∀ x ∈ l, wPoint x ≤ 1048576) :
    Calls Try.prog 25 #[v, v'] w fun e w' => e = .returned (.bool true) ∧ More w w' := by
  obtain ⟨ao, cap, rfl⟩ := sl_len hv
  obtain ⟨ao', cap', rfl⟩ := sl_len hv'
  have HV := Lib.hid hv; clear hv
  have HV' := Lib.hid hv'; clear hv'
  have HW := Lib.hid hw
  have hl : l.length ≤ 67108864 := by have := HW.out.1; unfold wPointS at this; omega
  clear hw
  obtain ⟨n, hn⟩ : ∃ n, n = l.length := ⟨_, rfl⟩
  rw [← hn] at HV HV' hl ⊢
  have HN := Lib.hid hn; clear hn
  go_enter Try.func25, Try.ntmps25
  go_wp2_with fail
  go_loopw [5] (fun i wr => ∃ k : Nat, k ≤ n ∧ i = .int .i64 k ∧ More w wr) (fun i _ => n - (intOf i).toNat)
  case atStart => exact ⟨0, Nat.zero_le _, rfl, More.refl _⟩
  case round =>
    obtain ⟨k, hk, rfl, hm⟩ := hrel
    by_cases hlt : k < n
    · obtain ⟨b, off, x, a1, n1, c1, a2, n2, c2, a4, n4, c4, a5, n5, c5, rfl, hblt, hx, hat, p0, p1, p2, p3, p4, p5⟩ := el_Point (Ty.at_more HV.out hm) (k := k) (by rw [← HN.out]; exact hlt)
      obtain ⟨b', off', y, sa1, sn1, sc1, sa2, sn2, sc2, sa4, sn4, sc4, sa5, sn5, sc5, rfl, hblt', hy, hat', q0, q1, q2, q3, q4, q5⟩ := el_Point (Ty.at_more HV'.out hm) (k := k) (by rw [← HN.out]; exact hlt)
      obtain rfl : y = x := by rw [hx] at hy; cases hy; rfl
      clear hx
      have HX := Lib.hid hy; have HA := Lib.hid hat; have HA' := Lib.hid hat'; clear hy hat hat'
      have C0 : ∀ w', More wr w' → w'.cell? ⟨b, off + k * 6, none⟩ = some (.bool y.1.1.1) := fun w' h => ((bcell h).1 _ _ hblt).trans p0
      have C1 : ∀ w', More wr w' → w'.cell? ⟨b, off + k * 6 + 1, none⟩ = some (.slice a1 n1 c1) := fun w' h => ((bcell h).1 _ _ hblt).trans p1
      have C2 : ∀ w', More wr w' → w'.cell? ⟨b, off + k * 6 + 2, none⟩ = some (.slice a2 n2 c2) := fun w' h => ((bcell h).1 _ _ hblt).trans p2
      have C3 : ∀ w', More wr w' → w'.cell? ⟨b, off + k * 6 + 3, none⟩ = some (.bool y.2.1.1) := fun w' h => ((bcell h).1 _ _ hblt).trans p3
      have C4 : ∀ w', More wr w' → w'.cell? ⟨b, off + k * 6 + 4, none⟩ = some (.slice a4 n4 c4) := fun w' h => ((bcell h).1 _ _ hblt).trans p4
      have C5 : ∀ w', More wr w' → w'.cell? ⟨b, off + k * 6 + 5, none⟩ = some (.slice a5 n5 c5) := fun w' h => ((bcell h).1 _ _ hblt).trans p5
      have D0 : ∀ w', More wr w' → w'.cell? ⟨b', off' + k * 6, none⟩ = some (.bool y.1.1.1) := fun w' h => ((bcell h).1 _ _ hblt').trans q0
      have D1 : ∀ w', More wr w' → w'.cell? ⟨b', off' + k * 6 + 1, none⟩ = some (.slice sa1 sn1 sc1) := fun w' h => ((bcell h).1 _ _ hblt').trans q1
      have D2 : ∀ w', More wr w' → w'.cell? ⟨b', off' + k * 6 + 2, none⟩ = some (.slice sa2 sn2 sc2) := fun w' h => ((bcell h).1 _ _ hblt').trans q2
      have D3 : ∀ w', More wr w' → w'.cell? ⟨b', off' + k * 6 + 3, none⟩ = some (.bool y.2.1.1) := fun w' h => ((bcell h).1 _ _ hblt').trans q3
      have D4 : ∀ w', More wr w' → w'.cell? ⟨b', off' + k * 6 + 4, none⟩ = some (.slice sa4 sn4 sc4) := fun w' h => ((bcell h).1 _ _ hblt').trans q4
      have D5 : ∀ w', More wr w' → w'.cell? ⟨b', off' + k * 6 + 5, none⟩ = some (.slice sa5 sn5 sc5) := fun w' h => ((bcell h).1 _ _ hblt').trans q5
      go_wp2_with fail
      go_region_held3 (fun w' => More wr w') (first | exact More.refl _ | exact mC) (first | (go_at_call 71; refine (laws_eqPoint _ _ y _ (Ty.at_more HA.out mC) (Ty.at_more HA'.out mC) (HW.out.2 _ (List.mem_of_getElem? HX.out))).mono ?_; rintro e w1 ⟨rfl, hb1⟩))
      go_wp2_with fail
      go_roundw
      case rel => exact ⟨k + 1, by omega, by go_num, mC⟩
      case measure => simp [intOf]; omega
    · go_wp2_with fail
      go_ret
      exact ⟨rfl, hm⟩
end Go.Proofs.Yteihkhniibncnaa
