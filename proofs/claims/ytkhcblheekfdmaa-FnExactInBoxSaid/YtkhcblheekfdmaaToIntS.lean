/- toIntS: the copy of a value of this kind in new memory. -/
import Derived.Test.YtkhcblheekfdmaaVecS
import Derived.Test.YtkhcblheekfdmaaKin
import Derived.Test.YtkhcblheekfdmaaVecS
import Derived.Deep.RegionHeld3
namespace Go.Proofs.Ytkhcblheekfdmaa
open Go.RowKit
theorem infoint_ : (Try.prog.info? 3).map (fun i => (i.zero, i.size, i.bytes)) = some (some (.int .i64 0), 1, 8) := by kernel_rfl
set_option maxHeartbeats 3200000 in
theorem laws_toIntS (v : Value) (l : List Int) (w : World) (hv : tInts.at w [v] l) (hw : wIntS l ≤ 1048576) :
    Calls Try.prog 105 #[v] w fun e w' => ∃ v', e = .returned v' ∧ More w w' ∧ tInts.fresh w.heap.size w' [v'] l := by
  obtain ⟨ao, cap, rfl⟩ := sl_len hv
  have HV := Lib.hid hv; clear hv
  have HW : Hid (l.length ≤ 1048576) := Lib.hid hw
  have hl : l.length ≤ 1048576 := by have := HW.out; omega
  clear hw
  obtain ⟨n, hn⟩ : ∃ n, n = l.length := ⟨_, rfl⟩
  rw [← hn] at HV hl ⊢
  have HN := Lib.hid hn; clear hn
  obtain ⟨i0, hi, hz0, hz1, hz2⟩ := info_parts infoint_
  go_enter Try.func105, Try.ntmps105
  go_wp2_with (at_make; refine wpList_make_full _ rfl _ _ 28 rfl w.heap.size 3 i0 (.int .i64 0) 1 Try.underlying28 hi hz0 hz1 _ _ _ _ n rfl rfl rfl rfl ?c1 ?c2 ?c3 ?_)
  case c1 => rw [hz2]; omega
  case c2 => unfold maxLen; omega
  case c3 => exact Nat.le_refl _
  intro w1 hown hgr
  have hb1 : More w w1 := Turns.more ((Turns.refl _ _).grown hgr (by simp))
  have HR : Hid (RowK tInt w.heap.size 3 w1 w.heap.size n n l 0) := Lib.hid (RowK.start hown)
  clear hown hgr
  go_wp2_with fail
  go_loopw [4] (fun i wr => ∃ k : Nat, k ≤ n ∧ i = .int .i64 k ∧ More w wr ∧ Hid (RowK tInt w.heap.size 3 wr w.heap.size n n l k)) (fun i _ => n - (intOf i).toNat)
  case atStart => exact ⟨0, Nat.zero_le _, rfl, hb1, HR⟩
  case round =>
    obtain ⟨k, hk, rfl, hm, HK⟩ := hrel
    clear HR hb1
    by_cases hlt : k < n
    · obtain ⟨b, off, x, rfl, hblt, hx, ox, p0⟩ := int_el (Ty.at_more HV.out hm) (k := k) (by rw [← HN.out]; exact hlt)
      have HX := Lib.hid hx; have OX := Lib.hid ox; clear hx ox
      skip
      skip
      skip
      · have hb2 : More wr wr := More.refl _
        have HK2 := RowK.more HK.out hb2
        obtain ⟨⟨u0, q0⟩, f0⟩ := HK2.cells (k) (by show _ < n * 1; omega)
        have HKK := Lib.hid HK2; clear HK2
        go_wp2_with fail
        go_roundw
        case rel => exact ⟨k + 1, by omega, by go_num, Turns.more ((Turns.via hb2 (hm.turns [])).setCell (.inr (Nat.le_refl _)) _), Lib.hid (by have h := RowK.step HK.out hb2 hlt HX.out (int_fresh OX.out); rw [show k * tInt.size = k from Nat.mul_one k] at h; exact h)⟩
        case measure => simp [intOf]; omega
    · go_wp2_with fail
      go_ret
      obtain rfl : k = n := by omega
      exact ⟨_, rfl, hm, HK.out.fresh HN.out⟩
end Go.Proofs.Ytkhcblheekfdmaa
