/- toSliceS: the copy of a value of this kind in new memory. -/
import Derived.Test.YtbbibfeblaocfaaGToS
import Derived.Test.YtbbibfeblaocfaaGVec
import Derived.Test.YtbbibfeblaocfaaGBase
import Derived.Deep.RegionHeld3
namespace Go.Proofs.Ytbbibfeblaocfaa
open Go.RowKit
theorem infoSlice_ : (Try.prog.info? 69).map (fun i => (i.zero, i.size, i.bytes)) = some (some (.agg #[.int .i64 0, .bool false, .int .i64 0, .int .i64 0, .int .i64 0, .int .i64 0, .slice none 0 0, .slice none 0 0, .slice none 0 0, .slice none 0 0, .slice none 0 0]), 11, 168) := by kernel_rfl
set_option maxHeartbeats 3200000 in
theorem laws_toSliceS (v : Value) (l : List (QSlice)) (w : World) (hv : tSlcS.at w [v] l) (hw : wSliceS l ≤ 1048576) :
    Calls Try.prog 108 #[v] w fun e w' => ∃ v', e = .returned v' ∧ More w w' ∧ tSlcS.fresh w.heap.size w' [v'] l := by
  obtain ⟨ao, cap, rfl⟩ := sl_len hv
  have HV := Lib.hid hv; clear hv
  have HW : Hid (l.length + wsum wSlice l ≤ 1048576) := Lib.hid hw
  have hl : l.length ≤ 1048576 := by have := HW.out; omega
  clear hw
  obtain ⟨n, hn⟩ : ∃ n, n = l.length := ⟨_, rfl⟩
  rw [← hn] at HV hl ⊢
  have HN := Lib.hid hn; clear hn
  obtain ⟨i0, hi, hz0, hz1, hz2⟩ := info_parts infoSlice_
  go_enter Try.func108, Try.ntmps108
  go_wp2_with (at_make; refine wpList_make_full _ rfl _ _ 78 rfl w.heap.size 69 i0 (.agg #[.int .i64 0, .bool false, .int .i64 0, .int .i64 0, .int .i64 0, .int .i64 0, .slice none 0 0, .slice none 0 0, .slice none 0 0, .slice none 0 0, .slice none 0 0]) 11 Try.underlying78 hi hz0 hz1 _ _ _ _ n rfl rfl rfl rfl ?c1 ?c2 ?c3 ?_)
  case c1 => rw [hz2]; omega
  case c2 => unfold maxLen; omega
  case c3 => exact Nat.le_refl _
  intro w1 hown hgr
  have hb1 : More w w1 := Turns.more ((Turns.refl _ _).grown hgr (by simp))
  have HR : Hid (RowK tSlc w.heap.size 69 w1 w.heap.size n n l 0) := Lib.hid (RowK.start hown)
  clear hown hgr
  go_wp2_with fail
  go_loopw [4] (fun i wr => ∃ k : Nat, k ≤ n ∧ i = .int .i64 k ∧ More w wr ∧ Hid (RowK tSlc w.heap.size 69 wr w.heap.size n n l k)) (fun i _ => n - (intOf i).toNat)
  case atStart => exact ⟨0, Nat.zero_le _, rfl, hb1, HR⟩
  case round =>
    obtain ⟨k, hk, rfl, hm, HK⟩ := hrel
    clear HR hb1
    by_cases hlt : k < n
    · obtain ⟨b, off, x, a6, n6, c6, a7, n7, c7, a8, n8, c8, a9, n9, c9, a10, n10, c10, rfl, hblt, hx, hat, p0, p1, p2, p3, p4, p5, p6, p7, p8, p9, p10⟩ := el_Slice (Ty.at_more HV.out hm) (k := k) (by rw [← HN.out]; exact hlt)
      have HX := Lib.hid hx; have HA := Lib.hid hat; clear hx hat
      go_wp2_with fail
      refine (laws_toSlice _ x _ HA.out (by have := wsum_el (f := wSlice) HX.out; have := HW.out; omega)).mono ?_
      rintro e w2 ⟨r2, rfl, hb2, g2⟩
      · obtain ⟨ya6, yn6, yc6, ya7, yn7, yc7, ya8, yn8, yc8, ya9, yn9, yc9, ya10, yn10, yc10, rfl⟩ := sh_Slice (Ty.fresh_at g2)
        have HF := Lib.hid g2; clear g2
        have HK2 := RowK.more HK.out hb2
        obtain ⟨⟨u0, q0⟩, f0⟩ := HK2.cells (k * 11) (by show _ < n * 11; omega)
        obtain ⟨⟨u1, q1⟩, f1⟩ := HK2.cells (k * 11 + 1) (by show _ < n * 11; omega)
        obtain ⟨⟨u2, q2⟩, f2⟩ := HK2.cells (k * 11 + 2) (by show _ < n * 11; omega)
        obtain ⟨⟨u3, q3⟩, f3⟩ := HK2.cells (k * 11 + 3) (by show _ < n * 11; omega)
        obtain ⟨⟨u4, q4⟩, f4⟩ := HK2.cells (k * 11 + 4) (by show _ < n * 11; omega)
        obtain ⟨⟨u5, q5⟩, f5⟩ := HK2.cells (k * 11 + 5) (by show _ < n * 11; omega)
        obtain ⟨⟨u6, q6⟩, f6⟩ := HK2.cells (k * 11 + 6) (by show _ < n * 11; omega)
        obtain ⟨⟨u7, q7⟩, f7⟩ := HK2.cells (k * 11 + 7) (by show _ < n * 11; omega)
        obtain ⟨⟨u8, q8⟩, f8⟩ := HK2.cells (k * 11 + 8) (by show _ < n * 11; omega)
        obtain ⟨⟨u9, q9⟩, f9⟩ := HK2.cells (k * 11 + 9) (by show _ < n * 11; omega)
        obtain ⟨⟨u10, q10⟩, f10⟩ := HK2.cells (k * 11 + 10) (by show _ < n * 11; omega)
        have HKK := Lib.hid HK2; clear HK2
        go_wp2_with fail
        go_roundw
        case rel => exact ⟨k + 1, by omega, by go_num, Turns.more ((((((((((((Turns.via hb2 (hm.turns [])).setCell (.inr (Nat.le_refl _)) _).setCell (.inr (Nat.le_refl _)) _).setCell (.inr (Nat.le_refl _)) _).setCell (.inr (Nat.le_refl _)) _).setCell (.inr (Nat.le_refl _)) _).setCell (.inr (Nat.le_refl _)) _).setCell (.inr (Nat.le_refl _)) _).setCell (.inr (Nat.le_refl _)) _).setCell (.inr (Nat.le_refl _)) _).setCell (.inr (Nat.le_refl _)) _).setCell (.inr (Nat.le_refl _)) _), Lib.hid (by have h := RowK.step HK.out hb2 hlt HX.out HF.out; rw [show k * tSlc.size = k * 11 from rfl, setCs_11] at h; exact h)⟩
        case measure => simp [intOf]; omega
    · go_wp2_with fail
      go_ret
      obtain rfl : k = n := by omega
      exact ⟨_, rfl, hm, HK.out.fresh HN.out⟩
end Go.Proofs.Ytbbibfeblaocfaa
