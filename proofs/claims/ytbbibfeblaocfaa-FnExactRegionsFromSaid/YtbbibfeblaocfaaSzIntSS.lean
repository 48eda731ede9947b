/- szIntSS: how much of the room a value of this kind takes. -/
import Derived.Test.YtbbibfeblaocfaaGHelp
import Derived.Test.YtbbibfeblaocfaaGBase
import Derived.Test.YtbbibfeblaocfaaGVec
import Derived.Deep.RegionHeld3
namespace Go.Proofs.Ytbbibfeblaocfaa
open Go.RowKit
set_option maxHeartbeats 1600000 in
theorem laws_szIntSS (v : Value) (l : List (List Int)) (left : Int) (w : World) (hv : tIntSS.at w [v] l) (h0 : 0 ≤ left) (h1 : left ≤ 1048576) :
    Calls Try.prog 105 #[v, .int .i64 left] w fun e w' => e = .returned (.int .i64 (szI (wIntSS l) left)) ∧ More w w' := by
  obtain ⟨ao, cap, rfl, hl⟩ := sl_len63 hv
  have HV := Lib.hid hv; clear hv
  have HW : Hid (wIntSS l = l.length + wsum wIntS l) := Lib.hid rfl
  obtain ⟨n, hn⟩ : ∃ n, n = l.length := ⟨_, rfl⟩
  rw [← hn] at HV HW hl ⊢
  have HN := Lib.hid hn; clear hn
  by_cases hbig : (n : Int) ≤ left
  · go_enter Try.func105, Try.ntmps105
    go_wp2_with fail
    go_loopw [1, 5] (fun c i wr => ∃ k s : Nat, k ≤ n ∧ i = .int .i64 k ∧ c = .int .i64 (left - n - s) ∧ (s : Int) ≤ left - n ∧ Hid (s = wsum wIntS (l.take k)) ∧ More w wr) (fun _ i _ => n - (intOf i).toNat)
    case atStart => exact ⟨0, 0, Nat.zero_le _, rfl, by simp, by omega, Lib.hid rfl, More.refl _⟩
    case round =>
      obtain ⟨k, s, hk, rfl, rfl, hs, HS, hm⟩ := hrel
      by_cases hlt : k < n
      · obtain ⟨b, off, x, a0, n0, c0, rfl, hblt, hx, hat, p0⟩ := el_IntS (Ty.at_more HV.out hm) (k := k) (by rw [← HN.out]; exact hlt)
        have HX := Lib.hid hx; have HA := Lib.hid hat; clear hx hat
        go_wp2_with fail
        refine (laws_szIntS _ x _ _ HA.out (by omega) (by omega)).mono ?_
        rintro e w1 ⟨rfl, b1⟩
        by_cases hg : ((wIntS x : Nat) : Int) ≤ left - n - s
        · rw [szI_pos hg]
          go_wp2_with fail
          go_roundw
          case rel => exact ⟨k + 1, s + wIntS x, by omega, by go_num, by congr 1; omega, by omega, Lib.hid (by rw [wsum_next HX.out, HS.out]), hm.trans b1⟩
          case measure => simp [intOf]; omega
        · rw [szI_neg hg]
          go_wp2_with fail
          go_ret
          exact ⟨ret_int (szI_neg (by have h1 := wsum_next (f := wIntS) HX.out; have h2 := wsum_take wIntS l (k + 1); have := HS.out; have := HW.out; omega)).symm, hm.trans b1⟩
      · go_wp2_with fail
        go_ret
        obtain rfl : k = n := by omega
        exact ⟨ret_int (by have h2 := HS.out; rw [List.take_of_length_le (by rw [← HN.out]; exact Nat.le_refl _)] at h2; have := HW.out; rw [szI_pos (by omega)]; omega), hm⟩
  · go_enter Try.func105, Try.ntmps105
    go_wp2_with fail
    go_ret
    exact ⟨ret_int (szI_neg (by have := HW.out; omega)).symm, More.refl _⟩
end Go.Proofs.Ytbbibfeblaocfaa
