/- szSliceS: how much of the room a value of this kind takes. -/
import Derived.Test.YtbbibfeblaocfaaGSzS
import Derived.Test.YtbbibfeblaocfaaGBase
import Derived.Test.YtbbibfeblaocfaaGVec
import Derived.Deep.RegionHeld3
namespace Go.Proofs.Ytbbibfeblaocfaa
open Go.RowKit
set_option maxHeartbeats 1600000 in
theorem laws_szSliceS (v : Value) (l : List (QSlice)) (left : Int) (w : World) (hv : tSlcS.at w [v] l) (h0 : 0 ≤ left) (h1 : left ≤ 1048576) :
    Calls Try.prog 104 #[v, .int .i64 left] w fun e w' => e = .returned (.int .i64 (szI (wSliceS l) left)) ∧ More w w' := by
  obtain ⟨ao, cap, rfl, hl⟩ := sl_len63 hv
  have HV := Lib.hid hv; clear hv
  have HW : Hid (wSliceS l = l.length + wsum wSlice l) := Lib.hid rfl
  obtain ⟨n, hn⟩ : ∃ n, n = l.length := ⟨_, rfl⟩
  rw [← hn] at HV HW hl ⊢
  have HN := Lib.hid hn; clear hn
  by_cases hbig : (n : Int) ≤ left
  · go_enter Try.func104, Try.ntmps104
    go_wp2_with fail
    go_loopw [1, 5] (fun c i wr => ∃ k s : Nat, k ≤ n ∧ i = .int .i64 k ∧ c = .int .i64 (left - n - s) ∧ (s : Int) ≤ left - n ∧ Hid (s = wsum wSlice (l.take k)) ∧ More w wr) (fun _ i _ => n - (intOf i).toNat)
    case atStart => exact ⟨0, 0, Nat.zero_le _, rfl, by simp, by omega, Lib.hid rfl, More.refl _⟩
    case round =>
      obtain ⟨k, s, hk, rfl, rfl, hs, HS, hm⟩ := hrel
      by_cases hlt : k < n
      · obtain ⟨b, off, x, a6, n6, c6, a7, n7, c7, a8, n8, c8, a9, n9, c9, a10, n10, c10, rfl, hblt, hx, hat, p0, p1, p2, p3, p4, p5, p6, p7, p8, p9, p10⟩ := el_Slice (Ty.at_more HV.out hm) (k := k) (by rw [← HN.out]; exact hlt)
        have HX := Lib.hid hx; have HA := Lib.hid hat; clear hx hat
        go_wp2_with fail
        refine (laws_szSlice _ x _ _ HA.out (by omega) (by omega)).mono ?_
        rintro e w1 ⟨rfl, b1⟩
        by_cases hg : ((wSlice x : Nat) : Int) ≤ left - n - s
        · rw [szI_pos hg]
          go_wp2_with fail
          go_roundw
          case rel => exact ⟨k + 1, s + wSlice x, by omega, by go_num, by congr 1; omega, by omega, Lib.hid (by rw [wsum_next HX.out, HS.out]), hm.trans b1⟩
          case measure => simp [intOf]; omega
        · rw [szI_neg hg]
          go_wp2_with fail
          go_ret
          exact ⟨ret_int (szI_neg (by have h1 := wsum_next (f := wSlice) HX.out; have h2 := wsum_take wSlice l (k + 1); have := HS.out; have := HW.out; omega)).symm, hm.trans b1⟩
      · go_wp2_with fail
        go_ret
        obtain rfl : k = n := by omega
        exact ⟨ret_int (by have h2 := HS.out; rw [List.take_of_length_le (by rw [← HN.out]; exact Nat.le_refl _)] at h2; have := HW.out; rw [szI_pos (by omega)]; omega), hm⟩
  · go_enter Try.func104, Try.ntmps104
    go_wp2_with fail
    go_ret
    exact ⟨ret_int (szI_neg (by have := HW.out; omega)).symm, More.refl _⟩
end Go.Proofs.Ytbbibfeblaocfaa
