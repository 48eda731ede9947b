/- Equality of lists of vectors and of lists of integers. -/
import Derived.Test.YtnndjbomfcacfaaGBase
import Derived.Test.YtnndjbomfcacfaaGVec
import Derived.Deep.RegionHeld3
import Derived.Deep.QuietTactic
import Derived.BigQuiet
import Derived.Laws.StructEq
namespace Go.Proofs.Ytnndjbomfcacfaa
open Go.RowKit
theorem el_ext {α : Type} {l m : List α} {n : Nat} (hl : l.length = n) (hm : m.length = n) (h : ∀ j, j < n → l[j]? = m[j]?) : l = m := by
  apply List.ext_getElem?
  intro i
  by_cases hi : i < n
  · exact h i hi
  · rw [List.getElem?_eq_none (by omega), List.getElem?_eq_none (by omega)]
set_option maxHeartbeats 3200000 in
theorem slicesEqual_IntS (v v' : Value) (l m : List Int) (w : World) (hv : tInts.at w [v] l) (hv' : tInts.at w [v'] m) (hl : l.length ≤ 1048576) (hm : m.length ≤ 1048576) :
    Calls Try.prog 65 #[v, v'] w fun e w' => e = .returned (.bool (decide (l = m))) ∧ More w w' := by
  obtain ⟨ao, cap, rfl⟩ := sl_len hv
  obtain ⟨ao', cap', rfl⟩ := sl_len hv'
  have HV := Lib.hid hv; clear hv
  have HV' := Lib.hid hv'; clear hv'
  skip
  obtain ⟨n, hn⟩ : ∃ n, n = l.length := ⟨_, rfl⟩
  obtain ⟨n', hn'⟩ : ∃ n', n' = m.length := ⟨_, rfl⟩
  rw [← hn] at HV hl ⊢
  rw [← hn'] at HV' hm ⊢
  have HN := Lib.hid hn; have HN' := Lib.hid hn'; clear hn hn'
  by_cases hne : n = n'
  · subst hne
    go_enter Try.func65, Try.ntmps65
    go_wp2_with fail
    go_loopw [13] (fun i wr => ∃ k : Nat, k ≤ n ∧ i = .int .i64 k ∧ More w wr ∧ Hid (∀ j, j < k → l[j]? = m[j]?)) (fun i _ => n - (intOf i).toNat)
    case atStart => exact ⟨0, Nat.zero_le _, rfl, More.refl _, Lib.hid (fun j hj => by omega)⟩
    case round =>
      obtain ⟨k, hk, rfl, hmr, HE⟩ := hrel
      by_cases hlt : k < n
      · obtain ⟨b, off, x, rfl, hblt, hx, -, c0⟩ := int_el (Ty.at_more HV.out hmr) (k := k) (by rw [← HN.out]; exact hlt)
        obtain ⟨b', off', y, rfl, hblt', hy, -, d0⟩ := int_el (Ty.at_more HV'.out hmr) (k := k) (by rw [← HN'.out]; exact hlt)
        have HX := Lib.hid hx; have HX' := Lib.hid hy; clear hx hy
        skip
        have hi0 : (0 : Int) ≤ (k : Int) := by omega
        have hi1 : (k : Int) < (n : Int) := by omega
        have nb : b ≠ wr.heap.size := by omega
        have nb' : b' ≠ wr.heap.size := by omega
        rcases Bool.eq_false_or_eq_true (x == y) with a0 | a0
        rotate_left
        · have A0 := Lib.hid a0
          go_wp2_with fail
          go_quiet (fail)
          go_wp2_with fail
          go_ret
          exact ⟨ret_bool (decide_eq_false (fun e => by
            have h1 := HX.out; have h2 := HX'.out
            rw [e, h2] at h1
            obtain rfl := Option.some.inj h1
            simp at a0)).symm, mC⟩
        have EQ : Hid (x = y) := Lib.hid (eq_of_beq a0)
        go_wp2_with fail
        go_quiet (fail)
        go_wp2_with fail
        go_roundw
        case rel => exact ⟨k + 1, by omega, by go_num, mC, Lib.hid (fun j hj => by
          rcases Nat.lt_succ_iff_lt_or_eq.1 hj with h | rfl
          · exact HE.out j h
          · rw [HX.out, HX'.out, EQ.out])⟩
        case measure => simp [intOf]; omega
      · go_wp2_with fail
        go_ret
        obtain rfl : k = n := by omega
        exact ⟨ret_bool (decide_eq_true (el_ext HN.out.symm HN'.out.symm HE.out)).symm, hmr⟩
  · have hne' : ((n : Int) != (n' : Int)) = true := by simp; omega
    go_enter Try.func65, Try.ntmps65
    go_wp2_with fail
    go_ret
    exact ⟨ret_bool (decide_eq_false (fun e => hne (by rw [HN.out, HN'.out, e]))).symm, More.refl _⟩
set_option maxHeartbeats 3200000 in
theorem spec_l04List (v v' : Value) (l m : List Int) (w : World) (hv : tInts.at w [v] l) (hv' : tInts.at w [v'] m) (hl : l.length ≤ 1048576) (hm : m.length ≤ 1048576) :
    Calls Try.prog 64 #[v, v'] w fun e w' => e = .returned (.bool (decide (l = m))) ∧ More w w' := by
  obtain ⟨ao, cap, rfl⟩ := sl_len hv
  obtain ⟨ao', cap', rfl⟩ := sl_len hv'
  have HV := Lib.hid hv; clear hv
  have HV' := Lib.hid hv'; clear hv'
  skip
  obtain ⟨n, hn⟩ : ∃ n, n = l.length := ⟨_, rfl⟩
  obtain ⟨n', hn'⟩ : ∃ n', n' = m.length := ⟨_, rfl⟩
  rw [← hn] at HV hl ⊢
  rw [← hn'] at HV' hm ⊢
  have HN := Lib.hid hn; have HN' := Lib.hid hn'; clear hn hn'
  by_cases hne : n = n'
  · subst hne
    go_enter Try.func64, Try.ntmps64
    go_wp2_with fail
    go_loopw [13] (fun i wr => ∃ k : Nat, k ≤ n ∧ i = .int .i64 k ∧ More w wr ∧ Hid (∀ j, j < k → l[j]? = m[j]?)) (fun i _ => n - (intOf i).toNat)
    case atStart => exact ⟨0, Nat.zero_le _, rfl, More.refl _, Lib.hid (fun j hj => by omega)⟩
    case round =>
      obtain ⟨k, hk, rfl, hmr, HE⟩ := hrel
      by_cases hlt : k < n
      · obtain ⟨b, off, x, rfl, hblt, hx, -, c0⟩ := int_el (Ty.at_more HV.out hmr) (k := k) (by rw [← HN.out]; exact hlt)
        obtain ⟨b', off', y, rfl, hblt', hy, -, d0⟩ := int_el (Ty.at_more HV'.out hmr) (k := k) (by rw [← HN'.out]; exact hlt)
        have HX := Lib.hid hx; have HX' := Lib.hid hy; clear hx hy
        skip
        have hi0 : (0 : Int) ≤ (k : Int) := by omega
        have hi1 : (k : Int) < (n : Int) := by omega
        have nb : b ≠ wr.heap.size := by omega
        have nb' : b' ≠ wr.heap.size := by omega
        rcases Bool.eq_false_or_eq_true (x == y) with a0 | a0
        rotate_left
        · have A0 := Lib.hid a0
          go_wp2_with fail
          go_quiet (fail)
          go_wp2_with fail
          go_ret
          exact ⟨ret_bool (decide_eq_false (fun e => by
            have h1 := HX.out; have h2 := HX'.out
            rw [e, h2] at h1
            obtain rfl := Option.some.inj h1
            simp at a0)).symm, mC⟩
        have EQ : Hid (x = y) := Lib.hid (eq_of_beq a0)
        go_wp2_with fail
        go_quiet (fail)
        go_wp2_with fail
        go_roundw
        case rel => exact ⟨k + 1, by omega, by go_num, mC, Lib.hid (fun j hj => by
          rcases Nat.lt_succ_iff_lt_or_eq.1 hj with h | rfl
          · exact HE.out j h
          · rw [HX.out, HX'.out, EQ.out])⟩
        case measure => simp [intOf]; omega
      · go_wp2_with fail
        go_ret
        obtain rfl : k = n := by omega
        exact ⟨ret_bool (decide_eq_true (el_ext HN.out.symm HN'.out.symm HE.out)).symm, hmr⟩
  · have hne' : ((n : Int) != (n' : Int)) = true := by simp; omega
    go_enter Try.func64, Try.ntmps64
    go_wp2_with fail
    go_ret
    exact ⟨ret_bool (decide_eq_false (fun e => hne (by rw [HN.out, HN'.out, e]))).symm, More.refl _⟩
end Go.Proofs.Ytnndjbomfcacfaa
