/- Copies of lists of vectors, and of lists of these: the reference's and the program's. -/
import Derived.Test.YtnndjbomfcacfaaApp
import Derived.Test.YtnndjbomfcacfaaGVec
import Derived.Test.YtnndjbomfcacfaaGBase
import Derived.Test.YtnndjbomfcacfaaNeg
import Derived.Deep.RegionHeld3
namespace Go.Proofs.Ytnndjbomfcacfaa
open Go.RowKit
theorem infoVecS9 : (Try.prog.info? 31).map (fun i => (i.zero, i.size, i.bytes)) = some (some (.slice none 0 0), 1, 24) := by kernel_rfl
set_option maxHeartbeats 1600000 in
theorem clone_vecs (v : Value) (l : List QV) (w : World) (hv : tVecs.at w [v] l) (hl : l.length ≤ 1048576) :
    Calls Try.prog 62 #[v] w fun e w' => ∃ v', e = .returned v' ∧ More w w' ∧ tVecs.fresh w.heap.size w' [v'] l := by
  obtain ⟨ao, cap, rfl, k1, k2, k3, k4⟩ := slRd_at hv
  have HV := Lib.hid hv; have HL := Lib.hid hl; clear hv hl k1 k2 k4
  obtain ⟨i0, hi, hz0, hz1, hz2⟩ := info_parts infoVec
  have q22 : ∀ (w : World) (a : Option Addr) (n c n' c' : Nat), (binOp .eql 31 (.slice a n c) (.slice none n' c')).run Try.prog w = .ok (.bool a.isNone) w := fun w a n c n' c' => Lib.run_eql_slice_nil w _ _ a n c n' c' Try.underlying31
  cases ao with
  | none =>
    have hc : cap = 0 := k3 rfl
    subst hc
    have hl0 : l = [] := by
      obtain ⟨ao', cap', h0, q1, q2, q3, _⟩ := slRd_at HV.out
      simp at h0
      obtain ⟨rfl, rfl⟩ := h0
      exact List.eq_nil_of_length_eq_zero (by omega)
    have HZ := Lib.hid hl0; clear hl0 k3
    go_enter Try.func62, Try.ntmps62
    go_wp2_with fail
    go_ret
    exact ⟨_, rfl, mC, by rw [HZ.out]; exact nil_fresh⟩
  | some ad =>
    clear k3
    go_enter Try.func62, Try.ntmps62
    go_wp2_with (at_builtin; refine wpList_copyAll fVec rfl _ _ 31 rfl 30 i0 (.agg #[.int .i64 0, .int .i64 0]) 16 Try.underlying31 hi hz0 hz1 hz2 rfl (by decide) rfl rfl (Ty.at_more HV.out mC) (Lib.hid (by have := HL.out; omega)) (by decide) ?_)
    intro v' w1 f1 b1
    go_wp2_with fail
    go_ret
    exact ⟨_, rfl, mC, Ty.fresh_mono f1 (by simp)⟩
set_option maxRecDepth 4000 in
set_option maxHeartbeats 3200000 in
theorem impl_ownAreas (v : Value) (l : List (List QV)) (w : World) (hv : tVecSS.at w [v] l) (hl : wVecSS l ≤ 1048577) :
    Calls Try.prog 63 #[v] w fun e w' => ∃ v', e = .returned v' ∧ More w w' ∧ ListOwn tVecs w.heap.size 31 w' v' l := by
  obtain ⟨i0, hi, hz0, hz1, hz2⟩ := info_parts infoVecS9
  obtain ⟨j0, ji, jz0, jz1, jz2⟩ := info_parts infoVec
  obtain ⟨ao, cap, rfl⟩ := sl_len hv
  have HV := Lib.hid hv; clear hv
  have HW : Hid (l.length + wsum wVecS l ≤ 1048577) := Lib.hid hl
  have hl : l.length ≤ 1048577 := by have := HW.out; omega
  obtain ⟨n, hn⟩ : ∃ n, n = l.length := ⟨_, rfl⟩
  rw [← hn] at HV hl ⊢
  have HN := Lib.hid hn; clear hn
  go_enter Try.func63, Try.ntmps63
  go_wp2_with fail
  go_loopw [3, 9] (fun vo vi wr => ∃ k : Nat, vi = .int .i64 k ∧ k ≤ n ∧ More w wr ∧ Hid (ListOwn tVecs w.heap.size 31 wr vo (l.take k))) (fun _ vi _ => n - (intOf vi).toNat)
  case atStart => exact ⟨0, rfl, Nat.zero_le _, mC, Lib.hid (ListOwn.lit (Nat.le_refl _))⟩
  case round =>
    obtain ⟨k, rfl, hk, hm, HO⟩ := hrel
    have HMW := Lib.hid hm
    by_cases hlt : k < n
    · obtain ⟨b, off, x, a0, n0, c0, rfl, hblt, hx, hat, p0⟩ := el_VecS (Ty.at_more HV.out hm) (k := k) (by rw [← HN.out]; exact hlt)
      have hi0 : (0 : Int) ≤ (k : Int) := by omega
      have hi1 : (k : Int) < (n : Int) := by omega
      have HX := Lib.hid hx
      have hxl : x.length ≤ 1048576 := by have h1 : x.length ≤ wsum wVecS l := wsum_el (f := wVecS) hx; have := (List.getElem?_eq_some_iff.1 hx).1; have := HW.out; omega
      have HXL := Lib.hid hxl
      have HA := Lib.hid hat
      clear hx hat hxl
      have HLen : Hid ((l.take k).length ≤ 2097152) := Lib.hid (by rw [List.length_take]; omega)
      go_wp2_with (first | (go_at_call 62; refine (clone_vecs _ x _ (Ty.at_more HA.out mC) HXL.out).mono ?_; rintro e w2 ⟨v2, rfl, hb2, f2⟩; obtain ⟨a2, c2, rfl⟩ := sl_len (Ty.fresh_at f2); have HF := Lib.hid f2; clear f2) | (at_builtin; go_loud (refine wpList_pushOwn tVecs wr rfl _ _ 32 rfl w.heap.size 31 i0 (.slice none 0 0) 24 Try.underlying32 hi hz0 hz1 hz2 rfl (by decide) rfl HO.out mC rfl (by simp) (y := x) (Ty.fresh_mono (show tVecs.fresh _ _ [_] x from Ty.fresh_more HF.out mC) (More.size (show More wr _ from mC))) HLen (by decide) (Lib.hid hm.size) ?_)))
      intro v4 w4 hl4 hm4
      have hw4 : More w w4 := hm4 w rfl (More.trans HMW.out mC)
      go_wp2_with fail
      go_roundw
      case rel => exact ⟨k + 1, by go_num, by omega, hw4, Lib.hid (by rw [take_next HX.out]; exact hl4)⟩
      case measure => simp [intOf]; omega
    · have hnl : ¬ (k : Int) < (n : Int) := by omega
      go_wp2_with fail
      go_ret
      obtain rfl : k = n := by omega
      exact ⟨_, rfl, HMW.out, by have h := HO.out; rw [HN.out, List.take_length] at h; exact h⟩
set_option maxRecDepth 4000 in
set_option maxHeartbeats 3200000 in
theorem spec_l10Lists (v : Value) (l : List (List QV)) (w : World) (hv : tVecSS.at w [v] l) (hl : wVecSS l ≤ 1048577) :
    Calls Try.prog 55 #[v] w fun e w' => ∃ v', e = .returned v' ∧ More w w' ∧ ListOwn tVecs w.heap.size 31 w' v' l := by
  obtain ⟨i0, hi, hz0, hz1, hz2⟩ := info_parts infoVecS9
  obtain ⟨j0, ji, jz0, jz1, jz2⟩ := info_parts infoVec
  obtain ⟨ao, cap, rfl⟩ := sl_len hv
  have HV := Lib.hid hv; clear hv
  have HW : Hid (l.length + wsum wVecS l ≤ 1048577) := Lib.hid hl
  have hl : l.length ≤ 1048577 := by have := HW.out; omega
  obtain ⟨n, hn⟩ : ∃ n, n = l.length := ⟨_, rfl⟩
  rw [← hn] at HV hl ⊢
  have HN := Lib.hid hn; clear hn
  go_enter Try.func55, Try.ntmps55
  go_wp2_with fail
  go_loopw [3, 9] (fun vo vi wr => ∃ k : Nat, vi = .int .i64 k ∧ k ≤ n ∧ More w wr ∧ Hid (ListOwn tVecs w.heap.size 31 wr vo (l.take k))) (fun _ vi _ => n - (intOf vi).toNat)
  case atStart => exact ⟨0, rfl, Nat.zero_le _, mC, Lib.hid (ListOwn.lit (Nat.le_refl _))⟩
  case round =>
    obtain ⟨k, rfl, hk, hm, HO⟩ := hrel
    have HMW := Lib.hid hm
    by_cases hlt : k < n
    · obtain ⟨b, off, x, a0, n0, c0, rfl, hblt, hx, hat, p0⟩ := el_VecS (Ty.at_more HV.out hm) (k := k) (by rw [← HN.out]; exact hlt)
      have hi0 : (0 : Int) ≤ (k : Int) := by omega
      have hi1 : (k : Int) < (n : Int) := by omega
      have HX := Lib.hid hx
      have hxl : x.length ≤ 1048576 := by have h1 : x.length ≤ wsum wVecS l := wsum_el (f := wVecS) hx; have := (List.getElem?_eq_some_iff.1 hx).1; have := HW.out; omega
      have HXL := Lib.hid hxl
      have HA := Lib.hid hat
      clear hx hat hxl
      have HLen : Hid ((l.take k).length ≤ 2097152) := Lib.hid (by rw [List.length_take]; omega)
      go_wp2_with (first | (at_builtin; refine wpList_copyAll fVec rfl _ _ 31 rfl 30 j0 (.agg #[.int .i64 0, .int .i64 0]) 16 Try.underlying31 ji jz0 jz1 jz2 rfl (by decide) rfl rfl (Ty.at_more HA.out mC) (Lib.hid (by have := HXL.out; omega)) (by decide) ?_; intro v2 w2 f2 hb2; obtain ⟨a2, c2, rfl⟩ := sl_len (Ty.fresh_at f2); have HF := Lib.hid f2; clear f2) | (at_builtin; go_loud (refine wpList_pushOwn tVecs wr rfl _ _ 32 rfl w.heap.size 31 i0 (.slice none 0 0) 24 Try.underlying32 hi hz0 hz1 hz2 rfl (by decide) rfl HO.out mC rfl (by simp) (y := x) (Ty.fresh_mono (show tVecs.fresh _ _ [_] x from Ty.fresh_more HF.out mC) (More.size (show More wr _ from mC))) HLen (by decide) (Lib.hid hm.size) ?_)))
      intro v4 w4 hl4 hm4
      have hw4 : More w w4 := hm4 w rfl (More.trans HMW.out mC)
      go_wp2_with fail
      go_roundw
      case rel => exact ⟨k + 1, by go_num, by omega, hw4, Lib.hid (by rw [take_next HX.out]; exact hl4)⟩
      case measure => simp [intOf]; omega
    · have hnl : ¬ (k : Int) < (n : Int) := by omega
      go_wp2_with fail
      go_ret
      obtain rfl : k = n := by omega
      exact ⟨_, rfl, HMW.out, by have h := HO.out; rw [HN.out, List.take_length] at h; exact h⟩
end Go.Proofs.Ytnndjbomfcacfaa
