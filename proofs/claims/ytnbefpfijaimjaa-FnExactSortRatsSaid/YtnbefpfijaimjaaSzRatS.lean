/- szRatS: how much of the room a value of this kind takes. -/
import Derived.Test.YtnbefpfijaimjaaGHelp
import Derived.Test.YtnbefpfijaimjaaGBase
import Derived.Test.YtnbefpfijaimjaaGVec
import Derived.Deep.RegionHeld3
namespace Go.Proofs.Ytnbefpfijaimjaa
open Go.RowKit
set_option maxHeartbeats 1600000 in
theorem laws_szRatS (v : Value) (l : List (QR)) (left : Int) (w : World) (hv : tRatS.at w [v] l) (h0 : 0 ≤ left) (h1 : left ≤ 1048576) :
    Calls Try.prog 4 #[v, .int .i64 left] w fun e w' => e = .returned (.int .i64 (szI (wRatS l) left)) ∧ More w w' := by
  obtain ⟨ao, cap, rfl, hl⟩ := sl_len63 hv
  have HV := Lib.hid hv; clear hv
  have HW : Hid (wRatS l = l.length + wsum wRat l) := Lib.hid rfl
  obtain ⟨n, hn⟩ : ∃ n, n = l.length := ⟨_, rfl⟩
  rw [← hn] at HV HW hl ⊢
  have HN := Lib.hid hn; clear hn
  by_cases hbig : (n : Int) ≤ left
  · go_enter Try.func4, Try.ntmps4
    go_wp2_with fail
    go_loopw [1, 5] (fun c i wr => ∃ k s : Nat, k ≤ n ∧ i = .int .i64 k ∧ c = .int .i64 (left - n - s) ∧ (s : Int) ≤ left - n ∧ Hid (s = wsum wRat (l.take k)) ∧ More w wr) (fun _ i _ => n - (intOf i).toNat)
    case atStart => exact ⟨0, 0, Nat.zero_le _, rfl, by simp, by omega, Lib.hid rfl, More.refl _⟩
    case round =>
      obtain ⟨k, s, hk, rfl, rfl, hs, HS, hm⟩ := hrel
      by_cases hlt : k < n
      · obtain ⟨b, off, x, a1, n1, c1, a2, n2, c2, rfl, hblt, hx, hat, p0, p1, p2⟩ := el_Rat (Ty.at_more HV.out hm) (k := k) (by rw [← HN.out]; exact hlt)
        have HX := Lib.hid hx; have HA := Lib.hid hat; clear hx hat
        go_wp2_with fail
        refine (laws_szRat _ x _ _ HA.out (by omega) (by omega)).mono ?_
        rintro e w1 ⟨rfl, b1⟩
        by_cases hg : ((wRat x : Nat) : Int) ≤ left - n - s
        · rw [szI_pos hg]
          go_wp2_with fail
          go_roundw
          case rel => exact ⟨k + 1, s + wRat x, by omega, by go_num, by congr 1; omega, by omega, Lib.hid (by rw [wsum_next HX.out, HS.out]), hm.trans b1⟩
          case measure => simp [intOf]; omega
        · rw [szI_neg hg]
          go_wp2_with fail
          go_ret
          exact ⟨ret_int (szI_neg (by have h1 := wsum_next (f := wRat) HX.out; have h2 := wsum_take wRat l (k + 1); have := HS.out; have := HW.out; omega)).symm, hm.trans b1⟩
      · go_wp2_with fail
        go_ret
        obtain rfl : k = n := by omega
        exact ⟨ret_int (by have h2 := HS.out; rw [List.take_of_length_le (by rw [← HN.out]; exact Nat.le_refl _)] at h2; have := HW.out; rw [szI_pos (by omega)]; omega), hm⟩
  · go_enter Try.func4, Try.ntmps4
    go_wp2_with fail
    go_ret
    exact ⟨ret_int (szI_neg (by have := HW.out; omega)).symm, More.refl _⟩
end Go.Proofs.Ytnbefpfijaimjaa
