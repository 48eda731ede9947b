/- toRatS: the copy of a value of this kind in new memory. -/
import Derived.Test.YtnbefpfijaimjaaGHelp
import Derived.Test.YtnbefpfijaimjaaGVec
import Derived.Test.YtnbefpfijaimjaaGBase
import Derived.Deep.RegionHeld3
namespace Go.Proofs.Ytnbefpfijaimjaa
open Go.RowKit
theorem infoRat_ : (Try.prog.info? 38).map (fun i => (i.zero, i.size, i.bytes)) = some (some (.agg #[.bool false, .slice none 0 0, .slice none 0 0]), 3, 56) := by kernel_rfl
set_option maxHeartbeats 3200000 in
theorem laws_toRatS (v : Value) (l : List (QR)) (w : World) (hv : tRatS.at w [v] l) (hw : wRatS l ≤ 1048576) :
    Calls Try.prog 6 #[v] w fun e w' => ∃ v', e = .returned v' ∧ More w w' ∧ tRatS.fresh w.heap.size w' [v'] l := by
  obtain ⟨ao, cap, rfl⟩ := sl_len hv
  have HV := Lib.hid hv; clear hv
  have HW : Hid (l.length + wsum wRat l ≤ 1048576) := Lib.hid hw
  have hl : l.length ≤ 1048576 := by have := HW.out; omega
  clear hw
  obtain ⟨n, hn⟩ : ∃ n, n = l.length := ⟨_, rfl⟩
  rw [← hn] at HV hl ⊢
  have HN := Lib.hid hn; clear hn
  obtain ⟨i0, hi, hz0, hz1, hz2⟩ := info_parts infoRat_
  go_enter Try.func6, Try.ntmps6
  go_wp2_with (at_make; refine wpList_make_full _ rfl _ _ 24 rfl w.heap.size 38 i0 (.agg #[.bool false, .slice none 0 0, .slice none 0 0]) 3 Try.underlying24 hi hz0 hz1 _ _ _ _ n rfl rfl rfl rfl ?c1 ?c2 ?c3 ?_)
  case c1 => rw [hz2]; omega
  case c2 => unfold maxLen; omega
  case c3 => exact Nat.le_refl _
  intro w1 hown hgr
  have hb1 : More w w1 := Turns.more ((Turns.refl _ _).grown hgr (by simp))
  have HR : Hid (RowK tRat w.heap.size 38 w1 w.heap.size n n l 0) := Lib.hid (RowK.start hown)
  clear hown hgr
  go_wp2_with fail
  go_loopw [4] (fun i wr => ∃ k : Nat, k ≤ n ∧ i = .int .i64 k ∧ More w wr ∧ Hid (RowK tRat w.heap.size 38 wr w.heap.size n n l k)) (fun i _ => n - (intOf i).toNat)
  case atStart => exact ⟨0, Nat.zero_le _, rfl, hb1, HR⟩
  case round =>
    obtain ⟨k, hk, rfl, hm, HK⟩ := hrel
    clear HR hb1
    by_cases hlt : k < n
    · obtain ⟨b, off, x, a1, n1, c1, a2, n2, c2, rfl, hblt, hx, hat, p0, p1, p2⟩ := el_Rat (Ty.at_more HV.out hm) (k := k) (by rw [← HN.out]; exact hlt)
      have HX := Lib.hid hx; have HA := Lib.hid hat; clear hx hat
      go_wp2_with fail
      refine (laws_toRat _ x _ HA.out (by have := wsum_el (f := wRat) HX.out; have := HW.out; omega)).mono ?_
      rintro e w2 ⟨r2, rfl, hb2, g2⟩
      · obtain ⟨ya1, yn1, yc1, ya2, yn2, yc2, rfl⟩ := sh_Rat (Ty.fresh_at g2)
        have HF := Lib.hid g2; clear g2
        have HK2 := RowK.more HK.out hb2
        obtain ⟨⟨u0, q0⟩, f0⟩ := HK2.cells (k * 3) (by show _ < n * 3; omega)
        obtain ⟨⟨u1, q1⟩, f1⟩ := HK2.cells (k * 3 + 1) (by show _ < n * 3; omega)
        obtain ⟨⟨u2, q2⟩, f2⟩ := HK2.cells (k * 3 + 2) (by show _ < n * 3; omega)
        have HKK := Lib.hid HK2; clear HK2
        go_wp2_with fail
        go_roundw
        case rel => exact ⟨k + 1, by omega, by go_num, Turns.more ((((Turns.via hb2 (hm.turns [])).setCell (.inr (Nat.le_refl _)) _).setCell (.inr (Nat.le_refl _)) _).setCell (.inr (Nat.le_refl _)) _), Lib.hid (by have h := RowK.step HK.out hb2 hlt HX.out HF.out; rw [show k * tRat.size = k * 3 from rfl, setCs_3] at h; exact h)⟩
        case measure => simp [intOf]; omega
    · go_wp2_with fail
      go_ret
      obtain rfl : k = n := by omega
      exact ⟨_, rfl, hm, HK.out.fresh HN.out⟩
end Go.Proofs.Ytnbefpfijaimjaa
