/- toIntSS: the copy of a value of this kind in new memory. -/
import Derived.Test.YtbbibfeblaocfaaGHelp
import Derived.Test.YtbbibfeblaocfaaGVec
import Derived.Test.YtbbibfeblaocfaaGBase
import Derived.Deep.RegionHeld3
namespace Go.Proofs.Ytbbibfeblaocfaa
open Go.RowKit
theorem infoIntS_ : (Try.prog.info? 26).map (fun i => (i.zero, i.size, i.bytes)) = some (some (.slice none 0 0), 1, 24) := by kernel_rfl
set_option maxHeartbeats 3200000 in
theorem laws_toIntSS (v : Value) (l : List (List Int)) (w : World) (hv : tIntSS.at w [v] l) (hw : wIntSS l ≤ 1048576) :
    Calls Try.prog 109 #[v] w fun e w' => ∃ v', e = .returned v' ∧ More w w' ∧ tIntSS.fresh w.heap.size w' [v'] l := by
  obtain ⟨ao, cap, rfl⟩ := sl_len hv
  have HV := Lib.hid hv; clear hv
  have HW : Hid (l.length + wsum wIntS l ≤ 1048576) := Lib.hid hw
  have hl : l.length ≤ 1048576 := by have := HW.out; omega
  clear hw
  obtain ⟨n, hn⟩ : ∃ n, n = l.length := ⟨_, rfl⟩
  rw [← hn] at HV hl ⊢
  have HN := Lib.hid hn; clear hn
  obtain ⟨i0, hi, hz0, hz1, hz2⟩ := info_parts infoIntS_
  go_enter Try.func109, Try.ntmps109
  go_wp2_with (at_make; refine wpList_make_full _ rfl _ _ 73 rfl w.heap.size 26 i0 (.slice none 0 0) 1 Try.underlying73 hi hz0 hz1 _ _ _ _ n rfl rfl rfl rfl ?c1 ?c2 ?c3 ?_)
  case c1 => rw [hz2]; omega
  case c2 => unfold maxLen; omega
  case c3 => exact Nat.le_refl _
  intro w1 hown hgr
  have hb1 : More w w1 := Turns.more ((Turns.refl _ _).grown hgr (by simp))
  have HR : Hid (RowK tInts w.heap.size 26 w1 w.heap.size n n l 0) := Lib.hid (RowK.start hown)
  clear hown hgr
  go_wp2_with fail
  go_loopw [4] (fun i wr => ∃ k : Nat, k ≤ n ∧ i = .int .i64 k ∧ More w wr ∧ Hid (RowK tInts w.heap.size 26 wr w.heap.size n n l k)) (fun i _ => n - (intOf i).toNat)
  case atStart => exact ⟨0, Nat.zero_le _, rfl, hb1, HR⟩
  case round =>
    obtain ⟨k, hk, rfl, hm, HK⟩ := hrel
    clear HR hb1
    by_cases hlt : k < n
    · obtain ⟨b, off, x, a0, n0, c0, rfl, hblt, hx, hat, p0⟩ := el_IntS (Ty.at_more HV.out hm) (k := k) (by rw [← HN.out]; exact hlt)
      have HX := Lib.hid hx; have HA := Lib.hid hat; clear hx hat
      go_wp2_with fail
      refine (laws_toIntS _ x _ HA.out (by have := wsum_el (f := wIntS) HX.out; have := HW.out; omega)).mono ?_
      rintro e w2 ⟨r2, rfl, hb2, g2⟩
      · obtain ⟨ya0, yn0, yc0, er2⟩ := sh_slice (Ty.fresh_at g2); simp only [List.cons.injEq, and_true] at er2; subst er2
        have HF := Lib.hid g2; clear g2
        have HK2 := RowK.more HK.out hb2
        obtain ⟨⟨u0, q0⟩, f0⟩ := HK2.cells (k) (by show _ < n * 1; omega)
        have HKK := Lib.hid HK2; clear HK2
        go_wp2_with fail
        go_roundw
        case rel => exact ⟨k + 1, by omega, by go_num, Turns.more ((Turns.via hb2 (hm.turns [])).setCell (.inr (Nat.le_refl _)) _), Lib.hid (by have h := RowK.step HK.out hb2 hlt HX.out HF.out; rw [show k * tInts.size = k from Nat.mul_one k] at h; exact h)⟩
        case measure => simp [intOf]; omega
    · go_wp2_with fail
      go_ret
      obtain rfl : k = n := by omega
      exact ⟨_, rfl, hm, HK.out.fresh HN.out⟩
end Go.Proofs.Ytbbibfeblaocfaa
