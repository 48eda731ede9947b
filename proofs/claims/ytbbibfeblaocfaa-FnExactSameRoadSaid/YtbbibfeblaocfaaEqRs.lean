/- Equality of roads: the program's. -/
import Derived.Test.YtbbibfeblaocfaaEqSs
import Derived.Deep.RegionHeld3
import Derived.Deep.QuietTactic
import Derived.BigQuiet
import Derived.Laws.StructEq
namespace Go.Proofs.Ytbbibfeblaocfaa
open Go.RowKit
instance decV : DecidableEq QV := inferInstanceAs (DecidableEq (Int × Int))
instance decSc3 : DecidableEq (List (List QV) × List QV) := inferInstance
instance decSc2 : DecidableEq (List QV × List (List QV) × List QV) := inferInstance
instance decSc1 : DecidableEq (QV × List QV × List (List QV) × List QV) := inferInstance
instance decSc : DecidableEq QScene := inferInstanceAs (DecidableEq (QV × QV × List QV × List (List QV) × List QV))
instance decR1 : DecidableEq (List QSlice × List Int × List (List Int)) := inferInstance
instance decRd : DecidableEq QRoad := inferInstanceAs (DecidableEq (QScene × List QSlice × List Int × List (List Int)))
set_option maxRecDepth 8000 in
set_option maxHeartbeats 3200000 in
theorem equalFunc_SliceS (v v' : Value) (l m : List (QSlice)) (w : World) (hv : tSlcS.at w [v] l) (hv' : tSlcS.at w [v'] m) (hl : wSliceS l ≤ 1048576) (hm : wSliceS m ≤ 1048576) :
    Calls Try.prog 111 #[v, v', .func (.func 32) #[] #[]] w fun e w' => e = .returned (.bool (decide (l = m))) ∧ More w w' := by
  obtain ⟨ao, cap, rfl⟩ := sl_len hv
  obtain ⟨ao', cap', rfl⟩ := sl_len hv'
  have HV := Lib.hid hv; clear hv
  have HV' := Lib.hid hv'; clear hv'
  have HWl : Hid (l.length + wsum wSlice l ≤ 1048576) := Lib.hid hl; have HWm : Hid (m.length + wsum wSlice m ≤ 1048576) := Lib.hid hm
  have hl : l.length ≤ 1048576 := by have := HWl.out; omega
  have hm : m.length ≤ 1048576 := by have := HWm.out; omega
  obtain ⟨n, hn⟩ : ∃ n, n = l.length := ⟨_, rfl⟩
  obtain ⟨n', hn'⟩ : ∃ n', n' = m.length := ⟨_, rfl⟩
  rw [← hn] at HV hl ⊢
  rw [← hn'] at HV' hm ⊢
  have HN := Lib.hid hn; have HN' := Lib.hid hn'; clear hn hn'
  by_cases hne : n = n'
  · subst hne
    go_enter Try.func111, Try.ntmps111
    go_wp2_with fail
    go_loopw [17] (fun i wr => ∃ k : Nat, k ≤ n ∧ i = .int .i64 k ∧ More w wr ∧ Hid (∀ j, j < k → l[j]? = m[j]?)) (fun i _ => n - (intOf i).toNat)
    case atStart => exact ⟨0, Nat.zero_le _, rfl, More.refl _, Lib.hid (fun j hj => by omega)⟩
    case round =>
      obtain ⟨k, hk, rfl, hmr, HE⟩ := hrel
      by_cases hlt : k < n
      · obtain ⟨b, off, x, a6, n6, c6, a7, n7, c7, a8, n8, c8, a9, n9, c9, a10, n10, c10, rfl, hblt, hx, hat, c0_, c1_, c2_, c3_, c4_, c5_, c6_, c7_, c8_, c9_, c10_⟩ := el_Slice (Ty.at_more HV.out hmr) (k := k) (by rw [← HN.out]; exact hlt)
        obtain ⟨b', off', y, sa6, sn6, sc6, sa7, sn7, sc7, sa8, sn8, sc8, sa9, sn9, sc9, sa10, sn10, sc10, rfl, hblt', hy, hat', d0_, d1_, d2_, d3_, d4_, d5_, d6_, d7_, d8_, d9_, d10_⟩ := el_Slice (Ty.at_more HV'.out hmr) (k := k) (by rw [← HN'.out]; exact hlt)
        have HX := Lib.hid hx; have HX' := Lib.hid hy; clear hx hy
        have HA := Lib.hid hat; have HA' := Lib.hid hat'; clear hat hat'
        have hi0 : (0 : Int) ≤ (k : Int) := by omega
        have hi1 : (k : Int) < (n : Int) := by omega
        have nb : b ≠ wr.heap.size := by omega
        have nb' : b' ≠ wr.heap.size := by omega
        rcases Bool.eq_false_or_eq_true (decide (x = y)) with hd | hd
        rotate_left
        · have HD := Lib.hid hd
          go_wp2_with fail
          refine (impl_SameSlice _ _ x y _ (Ty.at_more HA.out mC) (Ty.at_more HA'.out mC) (by have := wsum_el (f := wSlice) HX.out; have := HWl.out; omega) (by have := wsum_el (f := wSlice) HX'.out; have := HWm.out; omega)).mono ?_
          rintro e w1 ⟨rfl, hb1⟩
          rw [hd]
          go_wp2_with fail
          go_ret
          exact ⟨ret_bool (decide_eq_false (fun e => by
            have h1 := HX.out; have h2 := HX'.out
            rw [e, h2] at h1
            obtain rfl := Option.some.inj h1
            simp at hd)).symm, mC⟩
        have EQ : Hid (x = y) := Lib.hid (of_decide_eq_true hd)
        go_wp2_with fail
        refine (impl_SameSlice _ _ x y _ (Ty.at_more HA.out mC) (Ty.at_more HA'.out mC) (by have := wsum_el (f := wSlice) HX.out; have := HWl.out; omega) (by have := wsum_el (f := wSlice) HX'.out; have := HWm.out; omega)).mono ?_
        rintro e w1 ⟨rfl, hb1⟩
        rw [hd]
        go_wp2_with fail
        go_roundw
        case rel => exact ⟨k + 1, by omega, by go_num, mC, Lib.hid (fun j hj => by
          rcases Nat.lt_succ_iff_lt_or_eq.1 hj with h | rfl
          · exact HE.out j h
          · rw [HX.out, HX'.out, EQ.out])⟩
        case measure => simp [intOf]; omega
      · go_wp2_with fail
        go_ret
        obtain rfl : k = n := by omega
        exact ⟨ret_bool (decide_eq_true (el_ext HN.out.symm HN'.out.symm HE.out)).symm, hmr⟩
  · have hne' : ((n : Int) != (n' : Int)) = true := by simp; omega
    go_enter Try.func111, Try.ntmps111
    go_wp2_with fail
    go_ret
    exact ⟨ret_bool (decide_eq_false (fun e => hne (by rw [HN.out, HN'.out, e]))).symm, More.refl _⟩
set_option maxRecDepth 8000 in
set_option maxHeartbeats 400000 in
theorem impl_SameRoad_1 (v v' : Value) (l m : List Int) (w : World) (hv : tInts.at w [v] l) (hv' : tInts.at w [v'] m) (hl : l.length ≤ 1048576) (hm : m.length ≤ 1048576) :
    Calls Try.prog 113 #[v, v'] w fun e w' => e = .returned (.bool (decide (l = m))) ∧ More w w' := by
  have HV := Lib.hid hv; have HV' := Lib.hid hv'; have HL := Lib.hid hl; have HM := Lib.hid hm; clear hv hv' hl hm
  go_enter Try.func113, Try.ntmps113
  go_wp2_with (go_at_call 99; refine (slicesEqual_IntS _ _ l m _ HV.out HV'.out HL.out HM.out).mono ?_; rintro e w1 ⟨rfl, hb1⟩)
  go_ret
  exact ⟨rfl, mC⟩
set_option maxRecDepth 8000 in
set_option maxHeartbeats 3200000 in
theorem equalFunc_IntSS (v v' : Value) (l m : List (List Int)) (w : World) (hv : tIntSS.at w [v] l) (hv' : tIntSS.at w [v'] m) (hl : wIntSS l ≤ 1048576) (hm : wIntSS m ≤ 1048576) :
    Calls Try.prog 112 #[v, v', .func (.func 113) #[] #[]] w fun e w' => e = .returned (.bool (decide (l = m))) ∧ More w w' := by
  obtain ⟨ao, cap, rfl⟩ := sl_len hv
  obtain ⟨ao', cap', rfl⟩ := sl_len hv'
  have HV := Lib.hid hv; clear hv
  have HV' := Lib.hid hv'; clear hv'
  have HWl : Hid (l.length + wsum wIntS l ≤ 1048576) := Lib.hid hl; have HWm : Hid (m.length + wsum wIntS m ≤ 1048576) := Lib.hid hm
  have hl : l.length ≤ 1048576 := by have := HWl.out; omega
  have hm : m.length ≤ 1048576 := by have := HWm.out; omega
  obtain ⟨n, hn⟩ : ∃ n, n = l.length := ⟨_, rfl⟩
  obtain ⟨n', hn'⟩ : ∃ n', n' = m.length := ⟨_, rfl⟩
  rw [← hn] at HV hl ⊢
  rw [← hn'] at HV' hm ⊢
  have HN := Lib.hid hn; have HN' := Lib.hid hn'; clear hn hn'
  by_cases hne : n = n'
  · subst hne
    go_enter Try.func112, Try.ntmps112
    go_wp2_with fail
    go_loopw [17] (fun i wr => ∃ k : Nat, k ≤ n ∧ i = .int .i64 k ∧ More w wr ∧ Hid (∀ j, j < k → l[j]? = m[j]?)) (fun i _ => n - (intOf i).toNat)
    case atStart => exact ⟨0, Nat.zero_le _, rfl, More.refl _, Lib.hid (fun j hj => by omega)⟩
    case round =>
      obtain ⟨k, hk, rfl, hmr, HE⟩ := hrel
      by_cases hlt : k < n
      · obtain ⟨b, off, x, a0, n0, c0, rfl, hblt, hx, hat, c0_⟩ := el_IntS (Ty.at_more HV.out hmr) (k := k) (by rw [← HN.out]; exact hlt)
        obtain ⟨b', off', y, sa0, sn0, sc0, rfl, hblt', hy, hat', d0_⟩ := el_IntS (Ty.at_more HV'.out hmr) (k := k) (by rw [← HN'.out]; exact hlt)
        have HX := Lib.hid hx; have HX' := Lib.hid hy; clear hx hy
        have HA := Lib.hid hat; have HA' := Lib.hid hat'; clear hat hat'
        have hi0 : (0 : Int) ≤ (k : Int) := by omega
        have hi1 : (k : Int) < (n : Int) := by omega
        have nb : b ≠ wr.heap.size := by omega
        have nb' : b' ≠ wr.heap.size := by omega
        rcases Bool.eq_false_or_eq_true (decide (x = y)) with hd | hd
        rotate_left
        · have HD := Lib.hid hd
          go_wp2_with fail
          refine (impl_SameRoad_1 _ _ x y _ (Ty.at_more HA.out mC) (Ty.at_more HA'.out mC) (show wIntS x ≤ 1048576 by have := wsum_el (f := wIntS) HX.out; have := HWl.out; omega) (show wIntS y ≤ 1048576 by have := wsum_el (f := wIntS) HX'.out; have := HWm.out; omega)).mono ?_
          rintro e w1 ⟨rfl, hb1⟩
          rw [hd]
          go_wp2_with fail
          go_ret
          exact ⟨ret_bool (decide_eq_false (fun e => by
            have h1 := HX.out; have h2 := HX'.out
            rw [e, h2] at h1
            obtain rfl := Option.some.inj h1
            simp at hd)).symm, mC⟩
        have EQ : Hid (x = y) := Lib.hid (of_decide_eq_true hd)
        go_wp2_with fail
        refine (impl_SameRoad_1 _ _ x y _ (Ty.at_more HA.out mC) (Ty.at_more HA'.out mC) (show wIntS x ≤ 1048576 by have := wsum_el (f := wIntS) HX.out; have := HWl.out; omega) (show wIntS y ≤ 1048576 by have := wsum_el (f := wIntS) HX'.out; have := HWm.out; omega)).mono ?_
        rintro e w1 ⟨rfl, hb1⟩
        rw [hd]
        go_wp2_with fail
        go_roundw
        case rel => exact ⟨k + 1, by omega, by go_num, mC, Lib.hid (fun j hj => by
          rcases Nat.lt_succ_iff_lt_or_eq.1 hj with h | rfl
          · exact HE.out j h
          · rw [HX.out, HX'.out, EQ.out])⟩
        case measure => simp [intOf]; omega
      · go_wp2_with fail
        go_ret
        obtain rfl : k = n := by omega
        exact ⟨ret_bool (decide_eq_true (el_ext HN.out.symm HN'.out.symm HE.out)).symm, hmr⟩
  · have hne' : ((n : Int) != (n' : Int)) = true := by simp; omega
    go_enter Try.func112, Try.ntmps112
    go_wp2_with fail
    go_ret
    exact ⟨ret_bool (decide_eq_false (fun e => hne (by rw [HN.out, HN'.out, e]))).symm, More.refl _⟩
set_option maxRecDepth 8000 in
set_option maxHeartbeats 3200000 in
theorem spec_l19Ints (v v' : Value) (l m : List Int) (w : World) (hv : tInts.at w [v] l) (hv' : tInts.at w [v'] m) (hl : l.length ≤ 1048576) (hm : m.length ≤ 1048576) :
    Calls Try.prog 107 #[v, v'] w fun e w' => e = .returned (.bool (decide (l = m))) ∧ More w w' := by
  obtain ⟨ao, cap, rfl⟩ := sl_len hv
  obtain ⟨ao', cap', rfl⟩ := sl_len hv'
  have HV := Lib.hid hv; clear hv
  have HV' := Lib.hid hv'; clear hv'
  skip
  obtain ⟨n, hn⟩ : ∃ n, n = l.length := ⟨_, rfl⟩
  obtain ⟨n', hn'⟩ : ∃ n', n' = m.length := ⟨_, rfl⟩
  rw [← hn] at HV hl ⊢
  rw [← hn'] at HV' hm ⊢
  have HN := Lib.hid hn; have HN' := Lib.hid hn'; clear hn hn'
  by_cases hne : n = n'
  · subst hne
    go_enter Try.func107, Try.ntmps107
    go_wp2_with fail
    go_loopw [14] (fun i wr => ∃ k : Nat, k ≤ n ∧ i = .int .i64 k ∧ More w wr ∧ Hid (∀ j, j < k → l[j]? = m[j]?)) (fun i _ => n - (intOf i).toNat)
    case atStart => exact ⟨0, Nat.zero_le _, rfl, More.refl _, Lib.hid (fun j hj => by omega)⟩
    case round =>
      obtain ⟨k, hk, rfl, hmr, HE⟩ := hrel
      by_cases hlt : k < n
      · obtain ⟨b, off, x, rfl, hblt, hx, -, c0⟩ := int_el (Ty.at_more HV.out hmr) (k := k) (by rw [← HN.out]; exact hlt)
        obtain ⟨b', off', y, rfl, hblt', hy, -, d0⟩ := int_el (Ty.at_more HV'.out hmr) (k := k) (by rw [← HN'.out]; exact hlt)
        have HX := Lib.hid hx; have HX' := Lib.hid hy; clear hx hy
        skip
        have hi0 : (0 : Int) ≤ (k : Int) := by omega
        have hi1 : (k : Int) < (n : Int) := by omega
        have nb : b ≠ wr.heap.size := by omega
        have nb' : b' ≠ wr.heap.size := by omega
        rcases Bool.eq_false_or_eq_true (x == y) with a0 | a0
        rotate_left
        · have A0 := Lib.hid a0
          go_wp2_with fail
          go_ret
          exact ⟨ret_bool (decide_eq_false (fun e => by
            have h1 := HX.out; have h2 := HX'.out
            rw [e, h2] at h1
            obtain rfl := Option.some.inj h1
            simp at a0)).symm, mC⟩
        have EQ : Hid (x = y) := Lib.hid (eq_of_beq a0)
        go_wp2_with fail
        go_roundw
        case rel => exact ⟨k + 1, by omega, by go_num, mC, Lib.hid (fun j hj => by
          rcases Nat.lt_succ_iff_lt_or_eq.1 hj with h | rfl
          · exact HE.out j h
          · rw [HX.out, HX'.out, EQ.out])⟩
        case measure => simp [intOf]; omega
      · go_wp2_with fail
        go_ret
        obtain rfl : k = n := by omega
        exact ⟨ret_bool (decide_eq_true (el_ext HN.out.symm HN'.out.symm HE.out)).symm, hmr⟩
  · have hne' : ((n : Int) != (n' : Int)) = true := by simp; omega
    go_enter Try.func107, Try.ntmps107
    go_wp2_with fail
    go_ret
    exact ⟨ret_bool (decide_eq_false (fun e => hne (by rw [HN.out, HN'.out, e]))).symm, More.refl _⟩
set_option maxRecDepth 8000 in
set_option maxHeartbeats 3200000 in
theorem impl_SameRoad (cs ds : List Value) (x y : QRoad) (w : World) (hv : tRoad.at w cs x) (hv' : tRoad.at w ds y) (hw : wRoad x ≤ 1048576) (hw' : wRoad y ≤ 1048576) :
    Calls Try.prog 37 #[.agg cs.toArray, .agg ds.toArray] w fun e w' => e = .returned (.bool (decide (x = y))) ∧ More w w' := by
  obtain ⟨x_k0, x_d0, rfl, x_f0, x_e0⟩ := at_prod hv
  obtain ⟨x_k1, x_d1, rfl, x_f1, x_e1⟩ := at_prod x_e0
  obtain ⟨x_k2, x_d2, rfl, x_f2, x_e2⟩ := at_prod x_e1
  have x_f3 := x_e2
  obtain ⟨x_0k0, x_0d0, rfl, x_0f0, x_0e0⟩ := at_prod x_f0
  obtain ⟨x_0k1, x_0d1, rfl, x_0f1, x_0e1⟩ := at_prod x_0e0
  obtain ⟨x_0k2, x_0d2, rfl, x_0f2, x_0e2⟩ := at_prod x_0e1
  obtain ⟨x_0k3, x_0d3, rfl, x_0f3, x_0e3⟩ := at_prod x_0e2
  have x_0f4 := x_0e3
  obtain ⟨x_00k0, x_00d0, rfl, x_00f0, x_00e0⟩ := at_prod x_0f0
  have x_00f1 := x_00e0
  obtain rfl := sh_int x_00f0
  obtain rfl := sh_int x_00f1
  obtain ⟨x_01k0, x_01d0, rfl, x_01f0, x_01e0⟩ := at_prod x_0f1
  have x_01f1 := x_01e0
  obtain rfl := sh_int x_01f0
  obtain rfl := sh_int x_01f1
  obtain ⟨x_0a2, x_0n2, x_0c2, rfl⟩ := sh_slice x_0f2
  obtain ⟨x_0a3, x_0n3, x_0c3, rfl⟩ := sh_slice x_0f3
  obtain ⟨x_0a4, x_0n4, x_0c4, rfl⟩ := sh_slice x_0f4
  obtain ⟨x_a1, x_n1, x_c1, rfl⟩ := sh_slice x_f1
  obtain ⟨x_a2, x_n2, x_c2, rfl⟩ := sh_slice x_f2
  obtain ⟨x_a3, x_n3, x_c3, rfl⟩ := sh_slice x_f3
  obtain ⟨y_k0, y_d0, rfl, y_f0, y_e0⟩ := at_prod hv'
  obtain ⟨y_k1, y_d1, rfl, y_f1, y_e1⟩ := at_prod y_e0
  obtain ⟨y_k2, y_d2, rfl, y_f2, y_e2⟩ := at_prod y_e1
  have y_f3 := y_e2
  obtain ⟨y_0k0, y_0d0, rfl, y_0f0, y_0e0⟩ := at_prod y_f0
  obtain ⟨y_0k1, y_0d1, rfl, y_0f1, y_0e1⟩ := at_prod y_0e0
  obtain ⟨y_0k2, y_0d2, rfl, y_0f2, y_0e2⟩ := at_prod y_0e1
  obtain ⟨y_0k3, y_0d3, rfl, y_0f3, y_0e3⟩ := at_prod y_0e2
  have y_0f4 := y_0e3
  obtain ⟨y_00k0, y_00d0, rfl, y_00f0, y_00e0⟩ := at_prod y_0f0
  have y_00f1 := y_00e0
  obtain rfl := sh_int y_00f0
  obtain rfl := sh_int y_00f1
  obtain ⟨y_01k0, y_01d0, rfl, y_01f0, y_01e0⟩ := at_prod y_0f1
  have y_01f1 := y_01e0
  obtain rfl := sh_int y_01f0
  obtain rfl := sh_int y_01f1
  obtain ⟨y_0a2, y_0n2, y_0c2, rfl⟩ := sh_slice y_0f2
  obtain ⟨y_0a3, y_0n3, y_0c3, rfl⟩ := sh_slice y_0f3
  obtain ⟨y_0a4, y_0n4, y_0c4, rfl⟩ := sh_slice y_0f4
  obtain ⟨y_a1, y_n1, y_c1, rfl⟩ := sh_slice y_f1
  obtain ⟨y_a2, y_n2, y_c2, rfl⟩ := sh_slice y_f2
  obtain ⟨y_a3, y_n3, y_c3, rfl⟩ := sh_slice y_f3
  have FX0 : Hid (tScene.at w [.int .i64 x.1.1.1, .int .i64 x.1.1.2, .int .i64 x.1.2.1.1, .int .i64 x.1.2.1.2, .slice x_0a2 x_0n2 x_0c2, .slice x_0a3 x_0n3 x_0c3, .slice x_0a4 x_0n4 x_0c4] x.1) := Lib.hid x_f0
  have FY0 : Hid (tScene.at w [.int .i64 y.1.1.1, .int .i64 y.1.1.2, .int .i64 y.1.2.1.1, .int .i64 y.1.2.1.2, .slice y_0a2 y_0n2 y_0c2, .slice y_0a3 y_0n3 y_0c3, .slice y_0a4 y_0n4 y_0c4] y.1) := Lib.hid y_f0
  have HWX0 : Hid (wScene x.1 ≤ 1048576) := Lib.hid (by have := hw; unfold wRoad at this; omega)
  have HWY0 : Hid (wScene y.1 ≤ 1048576) := Lib.hid (by have := hw'; unfold wRoad at this; omega)
  have FX1 := Lib.hid x_f1; have FY1 := Lib.hid y_f1
  have HWX1 : Hid (wSliceS x.2.1 ≤ 1048576) := Lib.hid (by have := hw; unfold wRoad at this; omega)
  have HWY1 : Hid (wSliceS y.2.1 ≤ 1048576) := Lib.hid (by have := hw'; unfold wRoad at this; omega)
  have FX2 := Lib.hid x_f2; have FY2 := Lib.hid y_f2
  have HWX2 : Hid (x.2.2.1.length ≤ 1048576) := Lib.hid (show wIntS x.2.2.1 ≤ 1048576 by have := hw; unfold wRoad at this; omega)
  have HWY2 : Hid (y.2.2.1.length ≤ 1048576) := Lib.hid (show wIntS y.2.2.1 ≤ 1048576 by have := hw'; unfold wRoad at this; omega)
  have FX3 := Lib.hid x_f3; have FY3 := Lib.hid y_f3
  have HWX3 : Hid (wIntSS x.2.2.2 ≤ 1048576) := Lib.hid (by have := hw; unfold wRoad at this; omega)
  have HWY3 : Hid (wIntSS y.2.2.2 ≤ 1048576) := Lib.hid (by have := hw'; unfold wRoad at this; omega)
  clear hw hw'
  try clear x_00e0
  try clear x_00f0
  try clear x_00f1
  try clear x_01e0
  try clear x_01f0
  try clear x_01f1
  try clear x_0e0
  try clear x_0e1
  try clear x_0e2
  try clear x_0e3
  try clear x_0f0
  try clear x_0f1
  try clear x_0f2
  try clear x_0f3
  try clear x_0f4
  try clear x_e0
  try clear x_e1
  try clear x_e2
  try clear x_f0
  try clear x_f1
  try clear x_f2
  try clear x_f3
  try clear y_00e0
  try clear y_00f0
  try clear y_00f1
  try clear y_01e0
  try clear y_01f0
  try clear y_01f1
  try clear y_0e0
  try clear y_0e1
  try clear y_0e2
  try clear y_0e3
  try clear y_0f0
  try clear y_0f1
  try clear y_0f2
  try clear y_0f3
  try clear y_0f4
  try clear y_e0
  try clear y_e1
  try clear y_e2
  try clear y_f0
  try clear y_f1
  try clear y_f2
  try clear y_f3
  try clear hv
  try clear hv'
  show Calls Try.prog 37 #[.agg #[.int .i64 x.1.1.1, .int .i64 x.1.1.2, .int .i64 x.1.2.1.1, .int .i64 x.1.2.1.2, .slice x_0a2 x_0n2 x_0c2, .slice x_0a3 x_0n3 x_0c3, .slice x_0a4 x_0n4 x_0c4, .slice x_a1 x_n1 x_c1, .slice x_a2 x_n2 x_c2, .slice x_a3 x_n3 x_c3], .agg #[.int .i64 y.1.1.1, .int .i64 y.1.1.2, .int .i64 y.1.2.1.1, .int .i64 y.1.2.1.2, .slice y_0a2 y_0n2 y_0c2, .slice y_0a3 y_0n3 y_0c3, .slice y_0a4 y_0n4 y_0c4, .slice y_a1 y_n1 y_c1, .slice y_a2 y_n2 y_c2, .slice y_a3 y_n3 y_c3]] w _
  rcases Bool.eq_false_or_eq_true (decide (x.1 = y.1)) with a0 | a0
  rotate_left
  · have A0 := Lib.hid a0
    have HX : More ((w.alloc (.cells #[.int .i64 x.1.1.1, .int .i64 x.1.1.2, .int .i64 x.1.2.1.1, .int .i64 x.1.2.1.2, .slice x_0a2 x_0n2 x_0c2, .slice x_0a3 x_0n3 x_0c3, .slice x_0a4 x_0n4 x_0c4, .slice x_a1 x_n1 x_c1, .slice x_a2 x_n2 x_c2, .slice x_a3 x_n3 x_c3] 80)).alloc (.cells #[.int .i64 y.1.1.1, .int .i64 y.1.1.2, .int .i64 y.1.2.1.1, .int .i64 y.1.2.1.2, .slice y_0a2 y_0n2 y_0c2, .slice y_0a3 y_0n3 y_0c3, .slice y_0a4 y_0n4 y_0c4, .slice y_a1 y_n1 y_c1, .slice y_a2 y_n2 y_c2, .slice y_a3 y_n3 y_c3] 80)) ((w.alloc (.cells #[.int .i64 x.1.1.1, .int .i64 x.1.1.2, .int .i64 x.1.2.1.1, .int .i64 x.1.2.1.2, .slice x_0a2 x_0n2 x_0c2, .slice x_0a3 x_0n3 x_0c3, .slice x_0a4 x_0n4 x_0c4, .slice x_a1 x_n1 x_c1, .slice x_a2 x_n2 x_c2, .slice x_a3 x_n3 x_c3] 80)).alloc (.cells #[.int .i64 y.1.1.1, .int .i64 y.1.1.2, .int .i64 y.1.2.1.1, .int .i64 y.1.2.1.2, .slice y_0a2 y_0n2 y_0c2, .slice y_0a3 y_0n3 y_0c3, .slice y_0a4 y_0n4 y_0c4, .slice y_a1 y_n1 y_c1, .slice y_a2 y_n2 y_c2, .slice y_a3 y_n3 y_c3] 80)) := More.refl _
    have HB : ∀ w', More ((w.alloc (.cells #[.int .i64 x.1.1.1, .int .i64 x.1.1.2, .int .i64 x.1.2.1.1, .int .i64 x.1.2.1.2, .slice x_0a2 x_0n2 x_0c2, .slice x_0a3 x_0n3 x_0c3, .slice x_0a4 x_0n4 x_0c4, .slice x_a1 x_n1 x_c1, .slice x_a2 x_n2 x_c2, .slice x_a3 x_n3 x_c3] 80)).alloc (.cells #[.int .i64 y.1.1.1, .int .i64 y.1.1.2, .int .i64 y.1.2.1.1, .int .i64 y.1.2.1.2, .slice y_0a2 y_0n2 y_0c2, .slice y_0a3 y_0n3 y_0c3, .slice y_0a4 y_0n4 y_0c4, .slice y_a1 y_n1 y_c1, .slice y_a2 y_n2 y_c2, .slice y_a3 y_n3 y_c3] 80)) w' → w'.cell? ⟨w.heap.size, 0, none⟩ = some (.int .i64 x.1.1.1) ∧ w'.cell? ⟨w.heap.size, 1, none⟩ = some (.int .i64 x.1.1.2) ∧ w'.cell? ⟨w.heap.size, 2, none⟩ = some (.int .i64 x.1.2.1.1) ∧ w'.cell? ⟨w.heap.size, 3, none⟩ = some (.int .i64 x.1.2.1.2) ∧ w'.cell? ⟨w.heap.size, 4, none⟩ = some (.slice x_0a2 x_0n2 x_0c2) ∧ w'.cell? ⟨w.heap.size, 5, none⟩ = some (.slice x_0a3 x_0n3 x_0c3) ∧ w'.cell? ⟨w.heap.size, 6, none⟩ = some (.slice x_0a4 x_0n4 x_0c4) ∧ w'.cell? ⟨w.heap.size, 7, none⟩ = some (.slice x_a1 x_n1 x_c1) ∧ w'.cell? ⟨w.heap.size, 8, none⟩ = some (.slice x_a2 x_n2 x_c2) ∧ w'.cell? ⟨w.heap.size, 9, none⟩ = some (.slice x_a3 x_n3 x_c3) ∧ (∀ j, w'.frozen? ⟨w.heap.size, j, none⟩ = false) ∧ w'.cell? ⟨w.heap.size + 1, 0, none⟩ = some (.int .i64 y.1.1.1) ∧ w'.cell? ⟨w.heap.size + 1, 1, none⟩ = some (.int .i64 y.1.1.2) ∧ w'.cell? ⟨w.heap.size + 1, 2, none⟩ = some (.int .i64 y.1.2.1.1) ∧ w'.cell? ⟨w.heap.size + 1, 3, none⟩ = some (.int .i64 y.1.2.1.2) ∧ w'.cell? ⟨w.heap.size + 1, 4, none⟩ = some (.slice y_0a2 y_0n2 y_0c2) ∧ w'.cell? ⟨w.heap.size + 1, 5, none⟩ = some (.slice y_0a3 y_0n3 y_0c3) ∧ w'.cell? ⟨w.heap.size + 1, 6, none⟩ = some (.slice y_0a4 y_0n4 y_0c4) ∧ w'.cell? ⟨w.heap.size + 1, 7, none⟩ = some (.slice y_a1 y_n1 y_c1) ∧ w'.cell? ⟨w.heap.size + 1, 8, none⟩ = some (.slice y_a2 y_n2 y_c2) ∧ w'.cell? ⟨w.heap.size + 1, 9, none⟩ = some (.slice y_a3 y_n3 y_c3) ∧ (∀ j, w'.frozen? ⟨w.heap.size + 1, j, none⟩ = false) := fun w' h => ⟨box_new (by simp) (More.un h) 0, box_new (by simp) (More.un h) 1, box_new (by simp) (More.un h) 2, box_new (by simp) (More.un h) 3, box_new (by simp) (More.un h) 4, box_new (by simp) (More.un h) 5, box_new (by simp) (More.un h) 6, box_new (by simp) (More.un h) 7, box_new (by simp) (More.un h) 8, box_new (by simp) (More.un h) 9, fun j => box_free (by simp) (More.un h) j, box_new (by simp) h 0, box_new (by simp) h 1, box_new (by simp) h 2, box_new (by simp) h 3, box_new (by simp) h 4, box_new (by simp) h 5, box_new (by simp) h 6, box_new (by simp) h 7, box_new (by simp) h 8, box_new (by simp) h 9, fun j => box_free (by simp) h j⟩
    go_enter Try.func37, Try.ntmps37
    go_wp2_with (first | (go_at_call 110; (with_reducible refine (impl_SameScene _ _ x.1 y.1 _ (Ty.at_more FX0.out mC) (Ty.at_more FY0.out mC) HWX0.out HWY0.out).mono ?_); rintro e w1 ⟨rfl, hb1⟩; have HX : More ((w.alloc (.cells #[.int .i64 x.1.1.1, .int .i64 x.1.1.2, .int .i64 x.1.2.1.1, .int .i64 x.1.2.1.2, .slice x_0a2 x_0n2 x_0c2, .slice x_0a3 x_0n3 x_0c3, .slice x_0a4 x_0n4 x_0c4, .slice x_a1 x_n1 x_c1, .slice x_a2 x_n2 x_c2, .slice x_a3 x_n3 x_c3] 80)).alloc (.cells #[.int .i64 y.1.1.1, .int .i64 y.1.1.2, .int .i64 y.1.2.1.1, .int .i64 y.1.2.1.2, .slice y_0a2 y_0n2 y_0c2, .slice y_0a3 y_0n3 y_0c3, .slice y_0a4 y_0n4 y_0c4, .slice y_a1 y_n1 y_c1, .slice y_a2 y_n2 y_c2, .slice y_a3 y_n3 y_c3] 80)) _ := More.trans (by assumption) hb1; have HBw := HB _ HX) | (go_at_call 111; (with_reducible refine (equalFunc_SliceS _ _ x.2.1 y.2.1 _ (Ty.at_more FX1.out mC) (Ty.at_more FY1.out mC) HWX1.out HWY1.out).mono ?_); rintro e w1 ⟨rfl, hb1⟩; have HX : More ((w.alloc (.cells #[.int .i64 x.1.1.1, .int .i64 x.1.1.2, .int .i64 x.1.2.1.1, .int .i64 x.1.2.1.2, .slice x_0a2 x_0n2 x_0c2, .slice x_0a3 x_0n3 x_0c3, .slice x_0a4 x_0n4 x_0c4, .slice x_a1 x_n1 x_c1, .slice x_a2 x_n2 x_c2, .slice x_a3 x_n3 x_c3] 80)).alloc (.cells #[.int .i64 y.1.1.1, .int .i64 y.1.1.2, .int .i64 y.1.2.1.1, .int .i64 y.1.2.1.2, .slice y_0a2 y_0n2 y_0c2, .slice y_0a3 y_0n3 y_0c3, .slice y_0a4 y_0n4 y_0c4, .slice y_a1 y_n1 y_c1, .slice y_a2 y_n2 y_c2, .slice y_a3 y_n3 y_c3] 80)) _ := More.trans (by assumption) hb1; have HBw := HB _ HX) | (go_at_call 99; (with_reducible refine (slicesEqual_IntS _ _ x.2.2.1 y.2.2.1 _ (Ty.at_more FX2.out mC) (Ty.at_more FY2.out mC) HWX2.out HWY2.out).mono ?_); rintro e w1 ⟨rfl, hb1⟩; have HX : More ((w.alloc (.cells #[.int .i64 x.1.1.1, .int .i64 x.1.1.2, .int .i64 x.1.2.1.1, .int .i64 x.1.2.1.2, .slice x_0a2 x_0n2 x_0c2, .slice x_0a3 x_0n3 x_0c3, .slice x_0a4 x_0n4 x_0c4, .slice x_a1 x_n1 x_c1, .slice x_a2 x_n2 x_c2, .slice x_a3 x_n3 x_c3] 80)).alloc (.cells #[.int .i64 y.1.1.1, .int .i64 y.1.1.2, .int .i64 y.1.2.1.1, .int .i64 y.1.2.1.2, .slice y_0a2 y_0n2 y_0c2, .slice y_0a3 y_0n3 y_0c3, .slice y_0a4 y_0n4 y_0c4, .slice y_a1 y_n1 y_c1, .slice y_a2 y_n2 y_c2, .slice y_a3 y_n3 y_c3] 80)) _ := More.trans (by assumption) hb1; have HBw := HB _ HX) | (go_at_call 112; (with_reducible refine (equalFunc_IntSS _ _ x.2.2.2 y.2.2.2 _ (Ty.at_more FX3.out mC) (Ty.at_more FY3.out mC) HWX3.out HWY3.out).mono ?_); rintro e w1 ⟨rfl, hb1⟩; have HX : More ((w.alloc (.cells #[.int .i64 x.1.1.1, .int .i64 x.1.1.2, .int .i64 x.1.2.1.1, .int .i64 x.1.2.1.2, .slice x_0a2 x_0n2 x_0c2, .slice x_0a3 x_0n3 x_0c3, .slice x_0a4 x_0n4 x_0c4, .slice x_a1 x_n1 x_c1, .slice x_a2 x_n2 x_c2, .slice x_a3 x_n3 x_c3] 80)).alloc (.cells #[.int .i64 y.1.1.1, .int .i64 y.1.1.2, .int .i64 y.1.2.1.1, .int .i64 y.1.2.1.2, .slice y_0a2 y_0n2 y_0c2, .slice y_0a3 y_0n3 y_0c3, .slice y_0a4 y_0n4 y_0c4, .slice y_a1 y_n1 y_c1, .slice y_a2 y_n2 y_c2, .slice y_a3 y_n3 y_c3] 80)) _ := More.trans (by assumption) hb1; have HBw := HB _ HX))
    go_ret
    exact ⟨ret_bool (decide_eq_false (fun e => by have h := A0.out; rw [e] at h; simp at h)).symm, mC⟩
  rcases Bool.eq_false_or_eq_true (decide (x.2.1 = y.2.1)) with a1 | a1
  rotate_left
  · have A1 := Lib.hid a1
    have HX : More ((w.alloc (.cells #[.int .i64 x.1.1.1, .int .i64 x.1.1.2, .int .i64 x.1.2.1.1, .int .i64 x.1.2.1.2, .slice x_0a2 x_0n2 x_0c2, .slice x_0a3 x_0n3 x_0c3, .slice x_0a4 x_0n4 x_0c4, .slice x_a1 x_n1 x_c1, .slice x_a2 x_n2 x_c2, .slice x_a3 x_n3 x_c3] 80)).alloc (.cells #[.int .i64 y.1.1.1, .int .i64 y.1.1.2, .int .i64 y.1.2.1.1, .int .i64 y.1.2.1.2, .slice y_0a2 y_0n2 y_0c2, .slice y_0a3 y_0n3 y_0c3, .slice y_0a4 y_0n4 y_0c4, .slice y_a1 y_n1 y_c1, .slice y_a2 y_n2 y_c2, .slice y_a3 y_n3 y_c3] 80)) ((w.alloc (.cells #[.int .i64 x.1.1.1, .int .i64 x.1.1.2, .int .i64 x.1.2.1.1, .int .i64 x.1.2.1.2, .slice x_0a2 x_0n2 x_0c2, .slice x_0a3 x_0n3 x_0c3, .slice x_0a4 x_0n4 x_0c4, .slice x_a1 x_n1 x_c1, .slice x_a2 x_n2 x_c2, .slice x_a3 x_n3 x_c3] 80)).alloc (.cells #[.int .i64 y.1.1.1, .int .i64 y.1.1.2, .int .i64 y.1.2.1.1, .int .i64 y.1.2.1.2, .slice y_0a2 y_0n2 y_0c2, .slice y_0a3 y_0n3 y_0c3, .slice y_0a4 y_0n4 y_0c4, .slice y_a1 y_n1 y_c1, .slice y_a2 y_n2 y_c2, .slice y_a3 y_n3 y_c3] 80)) := More.refl _
    have HB : ∀ w', More ((w.alloc (.cells #[.int .i64 x.1.1.1, .int .i64 x.1.1.2, .int .i64 x.1.2.1.1, .int .i64 x.1.2.1.2, .slice x_0a2 x_0n2 x_0c2, .slice x_0a3 x_0n3 x_0c3, .slice x_0a4 x_0n4 x_0c4, .slice x_a1 x_n1 x_c1, .slice x_a2 x_n2 x_c2, .slice x_a3 x_n3 x_c3] 80)).alloc (.cells #[.int .i64 y.1.1.1, .int .i64 y.1.1.2, .int .i64 y.1.2.1.1, .int .i64 y.1.2.1.2, .slice y_0a2 y_0n2 y_0c2, .slice y_0a3 y_0n3 y_0c3, .slice y_0a4 y_0n4 y_0c4, .slice y_a1 y_n1 y_c1, .slice y_a2 y_n2 y_c2, .slice y_a3 y_n3 y_c3] 80)) w' → w'.cell? ⟨w.heap.size, 0, none⟩ = some (.int .i64 x.1.1.1) ∧ w'.cell? ⟨w.heap.size, 1, none⟩ = some (.int .i64 x.1.1.2) ∧ w'.cell? ⟨w.heap.size, 2, none⟩ = some (.int .i64 x.1.2.1.1) ∧ w'.cell? ⟨w.heap.size, 3, none⟩ = some (.int .i64 x.1.2.1.2) ∧ w'.cell? ⟨w.heap.size, 4, none⟩ = some (.slice x_0a2 x_0n2 x_0c2) ∧ w'.cell? ⟨w.heap.size, 5, none⟩ = some (.slice x_0a3 x_0n3 x_0c3) ∧ w'.cell? ⟨w.heap.size, 6, none⟩ = some (.slice x_0a4 x_0n4 x_0c4) ∧ w'.cell? ⟨w.heap.size, 7, none⟩ = some (.slice x_a1 x_n1 x_c1) ∧ w'.cell? ⟨w.heap.size, 8, none⟩ = some (.slice x_a2 x_n2 x_c2) ∧ w'.cell? ⟨w.heap.size, 9, none⟩ = some (.slice x_a3 x_n3 x_c3) ∧ (∀ j, w'.frozen? ⟨w.heap.size, j, none⟩ = false) ∧ w'.cell? ⟨w.heap.size + 1, 0, none⟩ = some (.int .i64 y.1.1.1) ∧ w'.cell? ⟨w.heap.size + 1, 1, none⟩ = some (.int .i64 y.1.1.2) ∧ w'.cell? ⟨w.heap.size + 1, 2, none⟩ = some (.int .i64 y.1.2.1.1) ∧ w'.cell? ⟨w.heap.size + 1, 3, none⟩ = some (.int .i64 y.1.2.1.2) ∧ w'.cell? ⟨w.heap.size + 1, 4, none⟩ = some (.slice y_0a2 y_0n2 y_0c2) ∧ w'.cell? ⟨w.heap.size + 1, 5, none⟩ = some (.slice y_0a3 y_0n3 y_0c3) ∧ w'.cell? ⟨w.heap.size + 1, 6, none⟩ = some (.slice y_0a4 y_0n4 y_0c4) ∧ w'.cell? ⟨w.heap.size + 1, 7, none⟩ = some (.slice y_a1 y_n1 y_c1) ∧ w'.cell? ⟨w.heap.size + 1, 8, none⟩ = some (.slice y_a2 y_n2 y_c2) ∧ w'.cell? ⟨w.heap.size + 1, 9, none⟩ = some (.slice y_a3 y_n3 y_c3) ∧ (∀ j, w'.frozen? ⟨w.heap.size + 1, j, none⟩ = false) := fun w' h => ⟨box_new (by simp) (More.un h) 0, box_new (by simp) (More.un h) 1, box_new (by simp) (More.un h) 2, box_new (by simp) (More.un h) 3, box_new (by simp) (More.un h) 4, box_new (by simp) (More.un h) 5, box_new (by simp) (More.un h) 6, box_new (by simp) (More.un h) 7, box_new (by simp) (More.un h) 8, box_new (by simp) (More.un h) 9, fun j => box_free (by simp) (More.un h) j, box_new (by simp) h 0, box_new (by simp) h 1, box_new (by simp) h 2, box_new (by simp) h 3, box_new (by simp) h 4, box_new (by simp) h 5, box_new (by simp) h 6, box_new (by simp) h 7, box_new (by simp) h 8, box_new (by simp) h 9, fun j => box_free (by simp) h j⟩
    go_enter Try.func37, Try.ntmps37
    go_wp2_with (first | (go_at_call 110; (with_reducible refine (impl_SameScene _ _ x.1 y.1 _ (Ty.at_more FX0.out mC) (Ty.at_more FY0.out mC) HWX0.out HWY0.out).mono ?_); rintro e w1 ⟨rfl, hb1⟩; have HX : More ((w.alloc (.cells #[.int .i64 x.1.1.1, .int .i64 x.1.1.2, .int .i64 x.1.2.1.1, .int .i64 x.1.2.1.2, .slice x_0a2 x_0n2 x_0c2, .slice x_0a3 x_0n3 x_0c3, .slice x_0a4 x_0n4 x_0c4, .slice x_a1 x_n1 x_c1, .slice x_a2 x_n2 x_c2, .slice x_a3 x_n3 x_c3] 80)).alloc (.cells #[.int .i64 y.1.1.1, .int .i64 y.1.1.2, .int .i64 y.1.2.1.1, .int .i64 y.1.2.1.2, .slice y_0a2 y_0n2 y_0c2, .slice y_0a3 y_0n3 y_0c3, .slice y_0a4 y_0n4 y_0c4, .slice y_a1 y_n1 y_c1, .slice y_a2 y_n2 y_c2, .slice y_a3 y_n3 y_c3] 80)) _ := More.trans (by assumption) hb1; have HBw := HB _ HX) | (go_at_call 111; (with_reducible refine (equalFunc_SliceS _ _ x.2.1 y.2.1 _ (Ty.at_more FX1.out mC) (Ty.at_more FY1.out mC) HWX1.out HWY1.out).mono ?_); rintro e w1 ⟨rfl, hb1⟩; have HX : More ((w.alloc (.cells #[.int .i64 x.1.1.1, .int .i64 x.1.1.2, .int .i64 x.1.2.1.1, .int .i64 x.1.2.1.2, .slice x_0a2 x_0n2 x_0c2, .slice x_0a3 x_0n3 x_0c3, .slice x_0a4 x_0n4 x_0c4, .slice x_a1 x_n1 x_c1, .slice x_a2 x_n2 x_c2, .slice x_a3 x_n3 x_c3] 80)).alloc (.cells #[.int .i64 y.1.1.1, .int .i64 y.1.1.2, .int .i64 y.1.2.1.1, .int .i64 y.1.2.1.2, .slice y_0a2 y_0n2 y_0c2, .slice y_0a3 y_0n3 y_0c3, .slice y_0a4 y_0n4 y_0c4, .slice y_a1 y_n1 y_c1, .slice y_a2 y_n2 y_c2, .slice y_a3 y_n3 y_c3] 80)) _ := More.trans (by assumption) hb1; have HBw := HB _ HX) | (go_at_call 99; (with_reducible refine (slicesEqual_IntS _ _ x.2.2.1 y.2.2.1 _ (Ty.at_more FX2.out mC) (Ty.at_more FY2.out mC) HWX2.out HWY2.out).mono ?_); rintro e w1 ⟨rfl, hb1⟩; have HX : More ((w.alloc (.cells #[.int .i64 x.1.1.1, .int .i64 x.1.1.2, .int .i64 x.1.2.1.1, .int .i64 x.1.2.1.2, .slice x_0a2 x_0n2 x_0c2, .slice x_0a3 x_0n3 x_0c3, .slice x_0a4 x_0n4 x_0c4, .slice x_a1 x_n1 x_c1, .slice x_a2 x_n2 x_c2, .slice x_a3 x_n3 x_c3] 80)).alloc (.cells #[.int .i64 y.1.1.1, .int .i64 y.1.1.2, .int .i64 y.1.2.1.1, .int .i64 y.1.2.1.2, .slice y_0a2 y_0n2 y_0c2, .slice y_0a3 y_0n3 y_0c3, .slice y_0a4 y_0n4 y_0c4, .slice y_a1 y_n1 y_c1, .slice y_a2 y_n2 y_c2, .slice y_a3 y_n3 y_c3] 80)) _ := More.trans (by assumption) hb1; have HBw := HB _ HX) | (go_at_call 112; (with_reducible refine (equalFunc_IntSS _ _ x.2.2.2 y.2.2.2 _ (Ty.at_more FX3.out mC) (Ty.at_more FY3.out mC) HWX3.out HWY3.out).mono ?_); rintro e w1 ⟨rfl, hb1⟩; have HX : More ((w.alloc (.cells #[.int .i64 x.1.1.1, .int .i64 x.1.1.2, .int .i64 x.1.2.1.1, .int .i64 x.1.2.1.2, .slice x_0a2 x_0n2 x_0c2, .slice x_0a3 x_0n3 x_0c3, .slice x_0a4 x_0n4 x_0c4, .slice x_a1 x_n1 x_c1, .slice x_a2 x_n2 x_c2, .slice x_a3 x_n3 x_c3] 80)).alloc (.cells #[.int .i64 y.1.1.1, .int .i64 y.1.1.2, .int .i64 y.1.2.1.1, .int .i64 y.1.2.1.2, .slice y_0a2 y_0n2 y_0c2, .slice y_0a3 y_0n3 y_0c3, .slice y_0a4 y_0n4 y_0c4, .slice y_a1 y_n1 y_c1, .slice y_a2 y_n2 y_c2, .slice y_a3 y_n3 y_c3] 80)) _ := More.trans (by assumption) hb1; have HBw := HB _ HX))
    go_ret
    exact ⟨ret_bool (decide_eq_false (fun e => by have h := A1.out; rw [e] at h; simp at h)).symm, mC⟩
  rcases Bool.eq_false_or_eq_true (decide (x.2.2.1 = y.2.2.1)) with a2 | a2
  rotate_left
  · have A2 := Lib.hid a2
    have HX : More ((w.alloc (.cells #[.int .i64 x.1.1.1, .int .i64 x.1.1.2, .int .i64 x.1.2.1.1, .int .i64 x.1.2.1.2, .slice x_0a2 x_0n2 x_0c2, .slice x_0a3 x_0n3 x_0c3, .slice x_0a4 x_0n4 x_0c4, .slice x_a1 x_n1 x_c1, .slice x_a2 x_n2 x_c2, .slice x_a3 x_n3 x_c3] 80)).alloc (.cells #[.int .i64 y.1.1.1, .int .i64 y.1.1.2, .int .i64 y.1.2.1.1, .int .i64 y.1.2.1.2, .slice y_0a2 y_0n2 y_0c2, .slice y_0a3 y_0n3 y_0c3, .slice y_0a4 y_0n4 y_0c4, .slice y_a1 y_n1 y_c1, .slice y_a2 y_n2 y_c2, .slice y_a3 y_n3 y_c3] 80)) ((w.alloc (.cells #[.int .i64 x.1.1.1, .int .i64 x.1.1.2, .int .i64 x.1.2.1.1, .int .i64 x.1.2.1.2, .slice x_0a2 x_0n2 x_0c2, .slice x_0a3 x_0n3 x_0c3, .slice x_0a4 x_0n4 x_0c4, .slice x_a1 x_n1 x_c1, .slice x_a2 x_n2 x_c2, .slice x_a3 x_n3 x_c3] 80)).alloc (.cells #[.int .i64 y.1.1.1, .int .i64 y.1.1.2, .int .i64 y.1.2.1.1, .int .i64 y.1.2.1.2, .slice y_0a2 y_0n2 y_0c2, .slice y_0a3 y_0n3 y_0c3, .slice y_0a4 y_0n4 y_0c4, .slice y_a1 y_n1 y_c1, .slice y_a2 y_n2 y_c2, .slice y_a3 y_n3 y_c3] 80)) := More.refl _
    have HB : ∀ w', More ((w.alloc (.cells #[.int .i64 x.1.1.1, .int .i64 x.1.1.2, .int .i64 x.1.2.1.1, .int .i64 x.1.2.1.2, .slice x_0a2 x_0n2 x_0c2, .slice x_0a3 x_0n3 x_0c3, .slice x_0a4 x_0n4 x_0c4, .slice x_a1 x_n1 x_c1, .slice x_a2 x_n2 x_c2, .slice x_a3 x_n3 x_c3] 80)).alloc (.cells #[.int .i64 y.1.1.1, .int .i64 y.1.1.2, .int .i64 y.1.2.1.1, .int .i64 y.1.2.1.2, .slice y_0a2 y_0n2 y_0c2, .slice y_0a3 y_0n3 y_0c3, .slice y_0a4 y_0n4 y_0c4, .slice y_a1 y_n1 y_c1, .slice y_a2 y_n2 y_c2, .slice y_a3 y_n3 y_c3] 80)) w' → w'.cell? ⟨w.heap.size, 0, none⟩ = some (.int .i64 x.1.1.1) ∧ w'.cell? ⟨w.heap.size, 1, none⟩ = some (.int .i64 x.1.1.2) ∧ w'.cell? ⟨w.heap.size, 2, none⟩ = some (.int .i64 x.1.2.1.1) ∧ w'.cell? ⟨w.heap.size, 3, none⟩ = some (.int .i64 x.1.2.1.2) ∧ w'.cell? ⟨w.heap.size, 4, none⟩ = some (.slice x_0a2 x_0n2 x_0c2) ∧ w'.cell? ⟨w.heap.size, 5, none⟩ = some (.slice x_0a3 x_0n3 x_0c3) ∧ w'.cell? ⟨w.heap.size, 6, none⟩ = some (.slice x_0a4 x_0n4 x_0c4) ∧ w'.cell? ⟨w.heap.size, 7, none⟩ = some (.slice x_a1 x_n1 x_c1) ∧ w'.cell? ⟨w.heap.size, 8, none⟩ = some (.slice x_a2 x_n2 x_c2) ∧ w'.cell? ⟨w.heap.size, 9, none⟩ = some (.slice x_a3 x_n3 x_c3) ∧ (∀ j, w'.frozen? ⟨w.heap.size, j, none⟩ = false) ∧ w'.cell? ⟨w.heap.size + 1, 0, none⟩ = some (.int .i64 y.1.1.1) ∧ w'.cell? ⟨w.heap.size + 1, 1, none⟩ = some (.int .i64 y.1.1.2) ∧ w'.cell? ⟨w.heap.size + 1, 2, none⟩ = some (.int .i64 y.1.2.1.1) ∧ w'.cell? ⟨w.heap.size + 1, 3, none⟩ = some (.int .i64 y.1.2.1.2) ∧ w'.cell? ⟨w.heap.size + 1, 4, none⟩ = some (.slice y_0a2 y_0n2 y_0c2) ∧ w'.cell? ⟨w.heap.size + 1, 5, none⟩ = some (.slice y_0a3 y_0n3 y_0c3) ∧ w'.cell? ⟨w.heap.size + 1, 6, none⟩ = some (.slice y_0a4 y_0n4 y_0c4) ∧ w'.cell? ⟨w.heap.size + 1, 7, none⟩ = some (.slice y_a1 y_n1 y_c1) ∧ w'.cell? ⟨w.heap.size + 1, 8, none⟩ = some (.slice y_a2 y_n2 y_c2) ∧ w'.cell? ⟨w.heap.size + 1, 9, none⟩ = some (.slice y_a3 y_n3 y_c3) ∧ (∀ j, w'.frozen? ⟨w.heap.size + 1, j, none⟩ = false) := fun w' h => ⟨box_new (by simp) (More.un h) 0, box_new (by simp) (More.un h) 1, box_new (by simp) (More.un h) 2, box_new (by simp) (More.un h) 3, box_new (by simp) (More.un h) 4, box_new (by simp) (More.un h) 5, box_new (by simp) (More.un h) 6, box_new (by simp) (More.un h) 7, box_new (by simp) (More.un h) 8, box_new (by simp) (More.un h) 9, fun j => box_free (by simp) (More.un h) j, box_new (by simp) h 0, box_new (by simp) h 1, box_new (by simp) h 2, box_new (by simp) h 3, box_new (by simp) h 4, box_new (by simp) h 5, box_new (by simp) h 6, box_new (by simp) h 7, box_new (by simp) h 8, box_new (by simp) h 9, fun j => box_free (by simp) h j⟩
    go_enter Try.func37, Try.ntmps37
    go_wp2_with (first | (go_at_call 110; (with_reducible refine (impl_SameScene _ _ x.1 y.1 _ (Ty.at_more FX0.out mC) (Ty.at_more FY0.out mC) HWX0.out HWY0.out).mono ?_); rintro e w1 ⟨rfl, hb1⟩; have HX : More ((w.alloc (.cells #[.int .i64 x.1.1.1, .int .i64 x.1.1.2, .int .i64 x.1.2.1.1, .int .i64 x.1.2.1.2, .slice x_0a2 x_0n2 x_0c2, .slice x_0a3 x_0n3 x_0c3, .slice x_0a4 x_0n4 x_0c4, .slice x_a1 x_n1 x_c1, .slice x_a2 x_n2 x_c2, .slice x_a3 x_n3 x_c3] 80)).alloc (.cells #[.int .i64 y.1.1.1, .int .i64 y.1.1.2, .int .i64 y.1.2.1.1, .int .i64 y.1.2.1.2, .slice y_0a2 y_0n2 y_0c2, .slice y_0a3 y_0n3 y_0c3, .slice y_0a4 y_0n4 y_0c4, .slice y_a1 y_n1 y_c1, .slice y_a2 y_n2 y_c2, .slice y_a3 y_n3 y_c3] 80)) _ := More.trans (by assumption) hb1; have HBw := HB _ HX) | (go_at_call 111; (with_reducible refine (equalFunc_SliceS _ _ x.2.1 y.2.1 _ (Ty.at_more FX1.out mC) (Ty.at_more FY1.out mC) HWX1.out HWY1.out).mono ?_); rintro e w1 ⟨rfl, hb1⟩; have HX : More ((w.alloc (.cells #[.int .i64 x.1.1.1, .int .i64 x.1.1.2, .int .i64 x.1.2.1.1, .int .i64 x.1.2.1.2, .slice x_0a2 x_0n2 x_0c2, .slice x_0a3 x_0n3 x_0c3, .slice x_0a4 x_0n4 x_0c4, .slice x_a1 x_n1 x_c1, .slice x_a2 x_n2 x_c2, .slice x_a3 x_n3 x_c3] 80)).alloc (.cells #[.int .i64 y.1.1.1, .int .i64 y.1.1.2, .int .i64 y.1.2.1.1, .int .i64 y.1.2.1.2, .slice y_0a2 y_0n2 y_0c2, .slice y_0a3 y_0n3 y_0c3, .slice y_0a4 y_0n4 y_0c4, .slice y_a1 y_n1 y_c1, .slice y_a2 y_n2 y_c2, .slice y_a3 y_n3 y_c3] 80)) _ := More.trans (by assumption) hb1; have HBw := HB _ HX) | (go_at_call 99; (with_reducible refine (slicesEqual_IntS _ _ x.2.2.1 y.2.2.1 _ (Ty.at_more FX2.out mC) (Ty.at_more FY2.out mC) HWX2.out HWY2.out).mono ?_); rintro e w1 ⟨rfl, hb1⟩; have HX : More ((w.alloc (.cells #[.int .i64 x.1.1.1, .int .i64 x.1.1.2, .int .i64 x.1.2.1.1, .int .i64 x.1.2.1.2, .slice x_0a2 x_0n2 x_0c2, .slice x_0a3 x_0n3 x_0c3, .slice x_0a4 x_0n4 x_0c4, .slice x_a1 x_n1 x_c1, .slice x_a2 x_n2 x_c2, .slice x_a3 x_n3 x_c3] 80)).alloc (.cells #[.int .i64 y.1.1.1, .int .i64 y.1.1.2, .int .i64 y.1.2.1.1, .int .i64 y.1.2.1.2, .slice y_0a2 y_0n2 y_0c2, .slice y_0a3 y_0n3 y_0c3, .slice y_0a4 y_0n4 y_0c4, .slice y_a1 y_n1 y_c1, .slice y_a2 y_n2 y_c2, .slice y_a3 y_n3 y_c3] 80)) _ := More.trans (by assumption) hb1; have HBw := HB _ HX) | (go_at_call 112; (with_reducible refine (equalFunc_IntSS _ _ x.2.2.2 y.2.2.2 _ (Ty.at_more FX3.out mC) (Ty.at_more FY3.out mC) HWX3.out HWY3.out).mono ?_); rintro e w1 ⟨rfl, hb1⟩; have HX : More ((w.alloc (.cells #[.int .i64 x.1.1.1, .int .i64 x.1.1.2, .int .i64 x.1.2.1.1, .int .i64 x.1.2.1.2, .slice x_0a2 x_0n2 x_0c2, .slice x_0a3 x_0n3 x_0c3, .slice x_0a4 x_0n4 x_0c4, .slice x_a1 x_n1 x_c1, .slice x_a2 x_n2 x_c2, .slice x_a3 x_n3 x_c3] 80)).alloc (.cells #[.int .i64 y.1.1.1, .int .i64 y.1.1.2, .int .i64 y.1.2.1.1, .int .i64 y.1.2.1.2, .slice y_0a2 y_0n2 y_0c2, .slice y_0a3 y_0n3 y_0c3, .slice y_0a4 y_0n4 y_0c4, .slice y_a1 y_n1 y_c1, .slice y_a2 y_n2 y_c2, .slice y_a3 y_n3 y_c3] 80)) _ := More.trans (by assumption) hb1; have HBw := HB _ HX))
    go_ret
    exact ⟨ret_bool (decide_eq_false (fun e => by have h := A2.out; rw [e] at h; simp at h)).symm, mC⟩
  rcases Bool.eq_false_or_eq_true (decide (x.2.2.2 = y.2.2.2)) with a3 | a3
  rotate_left
  · have A3 := Lib.hid a3
    have HX : More ((w.alloc (.cells #[.int .i64 x.1.1.1, .int .i64 x.1.1.2, .int .i64 x.1.2.1.1, .int .i64 x.1.2.1.2, .slice x_0a2 x_0n2 x_0c2, .slice x_0a3 x_0n3 x_0c3, .slice x_0a4 x_0n4 x_0c4, .slice x_a1 x_n1 x_c1, .slice x_a2 x_n2 x_c2, .slice x_a3 x_n3 x_c3] 80)).alloc (.cells #[.int .i64 y.1.1.1, .int .i64 y.1.1.2, .int .i64 y.1.2.1.1, .int .i64 y.1.2.1.2, .slice y_0a2 y_0n2 y_0c2, .slice y_0a3 y_0n3 y_0c3, .slice y_0a4 y_0n4 y_0c4, .slice y_a1 y_n1 y_c1, .slice y_a2 y_n2 y_c2, .slice y_a3 y_n3 y_c3] 80)) ((w.alloc (.cells #[.int .i64 x.1.1.1, .int .i64 x.1.1.2, .int .i64 x.1.2.1.1, .int .i64 x.1.2.1.2, .slice x_0a2 x_0n2 x_0c2, .slice x_0a3 x_0n3 x_0c3, .slice x_0a4 x_0n4 x_0c4, .slice x_a1 x_n1 x_c1, .slice x_a2 x_n2 x_c2, .slice x_a3 x_n3 x_c3] 80)).alloc (.cells #[.int .i64 y.1.1.1, .int .i64 y.1.1.2, .int .i64 y.1.2.1.1, .int .i64 y.1.2.1.2, .slice y_0a2 y_0n2 y_0c2, .slice y_0a3 y_0n3 y_0c3, .slice y_0a4 y_0n4 y_0c4, .slice y_a1 y_n1 y_c1, .slice y_a2 y_n2 y_c2, .slice y_a3 y_n3 y_c3] 80)) := More.refl _
    have HB : ∀ w', More ((w.alloc (.cells #[.int .i64 x.1.1.1, .int .i64 x.1.1.2, .int .i64 x.1.2.1.1, .int .i64 x.1.2.1.2, .slice x_0a2 x_0n2 x_0c2, .slice x_0a3 x_0n3 x_0c3, .slice x_0a4 x_0n4 x_0c4, .slice x_a1 x_n1 x_c1, .slice x_a2 x_n2 x_c2, .slice x_a3 x_n3 x_c3] 80)).alloc (.cells #[.int .i64 y.1.1.1, .int .i64 y.1.1.2, .int .i64 y.1.2.1.1, .int .i64 y.1.2.1.2, .slice y_0a2 y_0n2 y_0c2, .slice y_0a3 y_0n3 y_0c3, .slice y_0a4 y_0n4 y_0c4, .slice y_a1 y_n1 y_c1, .slice y_a2 y_n2 y_c2, .slice y_a3 y_n3 y_c3] 80)) w' → w'.cell? ⟨w.heap.size, 0, none⟩ = some (.int .i64 x.1.1.1) ∧ w'.cell? ⟨w.heap.size, 1, none⟩ = some (.int .i64 x.1.1.2) ∧ w'.cell? ⟨w.heap.size, 2, none⟩ = some (.int .i64 x.1.2.1.1) ∧ w'.cell? ⟨w.heap.size, 3, none⟩ = some (.int .i64 x.1.2.1.2) ∧ w'.cell? ⟨w.heap.size, 4, none⟩ = some (.slice x_0a2 x_0n2 x_0c2) ∧ w'.cell? ⟨w.heap.size, 5, none⟩ = some (.slice x_0a3 x_0n3 x_0c3) ∧ w'.cell? ⟨w.heap.size, 6, none⟩ = some (.slice x_0a4 x_0n4 x_0c4) ∧ w'.cell? ⟨w.heap.size, 7, none⟩ = some (.slice x_a1 x_n1 x_c1) ∧ w'.cell? ⟨w.heap.size, 8, none⟩ = some (.slice x_a2 x_n2 x_c2) ∧ w'.cell? ⟨w.heap.size, 9, none⟩ = some (.slice x_a3 x_n3 x_c3) ∧ (∀ j, w'.frozen? ⟨w.heap.size, j, none⟩ = false) ∧ w'.cell? ⟨w.heap.size + 1, 0, none⟩ = some (.int .i64 y.1.1.1) ∧ w'.cell? ⟨w.heap.size + 1, 1, none⟩ = some (.int .i64 y.1.1.2) ∧ w'.cell? ⟨w.heap.size + 1, 2, none⟩ = some (.int .i64 y.1.2.1.1) ∧ w'.cell? ⟨w.heap.size + 1, 3, none⟩ = some (.int .i64 y.1.2.1.2) ∧ w'.cell? ⟨w.heap.size + 1, 4, none⟩ = some (.slice y_0a2 y_0n2 y_0c2) ∧ w'.cell? ⟨w.heap.size + 1, 5, none⟩ = some (.slice y_0a3 y_0n3 y_0c3) ∧ w'.cell? ⟨w.heap.size + 1, 6, none⟩ = some (.slice y_0a4 y_0n4 y_0c4) ∧ w'.cell? ⟨w.heap.size + 1, 7, none⟩ = some (.slice y_a1 y_n1 y_c1) ∧ w'.cell? ⟨w.heap.size + 1, 8, none⟩ = some (.slice y_a2 y_n2 y_c2) ∧ w'.cell? ⟨w.heap.size + 1, 9, none⟩ = some (.slice y_a3 y_n3 y_c3) ∧ (∀ j, w'.frozen? ⟨w.heap.size + 1, j, none⟩ = false) := fun w' h => ⟨box_new (by simp) (More.un h) 0, box_new (by simp) (More.un h) 1, box_new (by simp) (More.un h) 2, box_new (by simp) (More.un h) 3, box_new (by simp) (More.un h) 4, box_new (by simp) (More.un h) 5, box_new (by simp) (More.un h) 6, box_new (by simp) (More.un h) 7, box_new (by simp) (More.un h) 8, box_new (by simp) (More.un h) 9, fun j => box_free (by simp) (More.un h) j, box_new (by simp) h 0, box_new (by simp) h 1, box_new (by simp) h 2, box_new (by simp) h 3, box_new (by simp) h 4, box_new (by simp) h 5, box_new (by simp) h 6, box_new (by simp) h 7, box_new (by simp) h 8, box_new (by simp) h 9, fun j => box_free (by simp) h j⟩
    go_enter Try.func37, Try.ntmps37
    go_wp2_with (first | (go_at_call 110; (with_reducible refine (impl_SameScene _ _ x.1 y.1 _ (Ty.at_more FX0.out mC) (Ty.at_more FY0.out mC) HWX0.out HWY0.out).mono ?_); rintro e w1 ⟨rfl, hb1⟩; have HX : More ((w.alloc (.cells #[.int .i64 x.1.1.1, .int .i64 x.1.1.2, .int .i64 x.1.2.1.1, .int .i64 x.1.2.1.2, .slice x_0a2 x_0n2 x_0c2, .slice x_0a3 x_0n3 x_0c3, .slice x_0a4 x_0n4 x_0c4, .slice x_a1 x_n1 x_c1, .slice x_a2 x_n2 x_c2, .slice x_a3 x_n3 x_c3] 80)).alloc (.cells #[.int .i64 y.1.1.1, .int .i64 y.1.1.2, .int .i64 y.1.2.1.1, .int .i64 y.1.2.1.2, .slice y_0a2 y_0n2 y_0c2, .slice y_0a3 y_0n3 y_0c3, .slice y_0a4 y_0n4 y_0c4, .slice y_a1 y_n1 y_c1, .slice y_a2 y_n2 y_c2, .slice y_a3 y_n3 y_c3] 80)) _ := More.trans (by assumption) hb1; have HBw := HB _ HX) | (go_at_call 111; (with_reducible refine (equalFunc_SliceS _ _ x.2.1 y.2.1 _ (Ty.at_more FX1.out mC) (Ty.at_more FY1.out mC) HWX1.out HWY1.out).mono ?_); rintro e w1 ⟨rfl, hb1⟩; have HX : More ((w.alloc (.cells #[.int .i64 x.1.1.1, .int .i64 x.1.1.2, .int .i64 x.1.2.1.1, .int .i64 x.1.2.1.2, .slice x_0a2 x_0n2 x_0c2, .slice x_0a3 x_0n3 x_0c3, .slice x_0a4 x_0n4 x_0c4, .slice x_a1 x_n1 x_c1, .slice x_a2 x_n2 x_c2, .slice x_a3 x_n3 x_c3] 80)).alloc (.cells #[.int .i64 y.1.1.1, .int .i64 y.1.1.2, .int .i64 y.1.2.1.1, .int .i64 y.1.2.1.2, .slice y_0a2 y_0n2 y_0c2, .slice y_0a3 y_0n3 y_0c3, .slice y_0a4 y_0n4 y_0c4, .slice y_a1 y_n1 y_c1, .slice y_a2 y_n2 y_c2, .slice y_a3 y_n3 y_c3] 80)) _ := More.trans (by assumption) hb1; have HBw := HB _ HX) | (go_at_call 99; (with_reducible refine (slicesEqual_IntS _ _ x.2.2.1 y.2.2.1 _ (Ty.at_more FX2.out mC) (Ty.at_more FY2.out mC) HWX2.out HWY2.out).mono ?_); rintro e w1 ⟨rfl, hb1⟩; have HX : More ((w.alloc (.cells #[.int .i64 x.1.1.1, .int .i64 x.1.1.2, .int .i64 x.1.2.1.1, .int .i64 x.1.2.1.2, .slice x_0a2 x_0n2 x_0c2, .slice x_0a3 x_0n3 x_0c3, .slice x_0a4 x_0n4 x_0c4, .slice x_a1 x_n1 x_c1, .slice x_a2 x_n2 x_c2, .slice x_a3 x_n3 x_c3] 80)).alloc (.cells #[.int .i64 y.1.1.1, .int .i64 y.1.1.2, .int .i64 y.1.2.1.1, .int .i64 y.1.2.1.2, .slice y_0a2 y_0n2 y_0c2, .slice y_0a3 y_0n3 y_0c3, .slice y_0a4 y_0n4 y_0c4, .slice y_a1 y_n1 y_c1, .slice y_a2 y_n2 y_c2, .slice y_a3 y_n3 y_c3] 80)) _ := More.trans (by assumption) hb1; have HBw := HB _ HX) | (go_at_call 112; (with_reducible refine (equalFunc_IntSS _ _ x.2.2.2 y.2.2.2 _ (Ty.at_more FX3.out mC) (Ty.at_more FY3.out mC) HWX3.out HWY3.out).mono ?_); rintro e w1 ⟨rfl, hb1⟩; have HX : More ((w.alloc (.cells #[.int .i64 x.1.1.1, .int .i64 x.1.1.2, .int .i64 x.1.2.1.1, .int .i64 x.1.2.1.2, .slice x_0a2 x_0n2 x_0c2, .slice x_0a3 x_0n3 x_0c3, .slice x_0a4 x_0n4 x_0c4, .slice x_a1 x_n1 x_c1, .slice x_a2 x_n2 x_c2, .slice x_a3 x_n3 x_c3] 80)).alloc (.cells #[.int .i64 y.1.1.1, .int .i64 y.1.1.2, .int .i64 y.1.2.1.1, .int .i64 y.1.2.1.2, .slice y_0a2 y_0n2 y_0c2, .slice y_0a3 y_0n3 y_0c3, .slice y_0a4 y_0n4 y_0c4, .slice y_a1 y_n1 y_c1, .slice y_a2 y_n2 y_c2, .slice y_a3 y_n3 y_c3] 80)) _ := More.trans (by assumption) hb1; have HBw := HB _ HX))
    go_ret
    exact ⟨ret_bool (decide_eq_false (fun e => by have h := A3.out; rw [e] at h; simp at h)).symm, mC⟩
  have EQ : Hid (x = y) := Lib.hid (Prod.ext (of_decide_eq_true a0) (Prod.ext (of_decide_eq_true a1) (Prod.ext (of_decide_eq_true a2) (of_decide_eq_true a3))))
  have HX : More ((w.alloc (.cells #[.int .i64 x.1.1.1, .int .i64 x.1.1.2, .int .i64 x.1.2.1.1, .int .i64 x.1.2.1.2, .slice x_0a2 x_0n2 x_0c2, .slice x_0a3 x_0n3 x_0c3, .slice x_0a4 x_0n4 x_0c4, .slice x_a1 x_n1 x_c1, .slice x_a2 x_n2 x_c2, .slice x_a3 x_n3 x_c3] 80)).alloc (.cells #[.int .i64 y.1.1.1, .int .i64 y.1.1.2, .int .i64 y.1.2.1.1, .int .i64 y.1.2.1.2, .slice y_0a2 y_0n2 y_0c2, .slice y_0a3 y_0n3 y_0c3, .slice y_0a4 y_0n4 y_0c4, .slice y_a1 y_n1 y_c1, .slice y_a2 y_n2 y_c2, .slice y_a3 y_n3 y_c3] 80)) ((w.alloc (.cells #[.int .i64 x.1.1.1, .int .i64 x.1.1.2, .int .i64 x.1.2.1.1, .int .i64 x.1.2.1.2, .slice x_0a2 x_0n2 x_0c2, .slice x_0a3 x_0n3 x_0c3, .slice x_0a4 x_0n4 x_0c4, .slice x_a1 x_n1 x_c1, .slice x_a2 x_n2 x_c2, .slice x_a3 x_n3 x_c3] 80)).alloc (.cells #[.int .i64 y.1.1.1, .int .i64 y.1.1.2, .int .i64 y.1.2.1.1, .int .i64 y.1.2.1.2, .slice y_0a2 y_0n2 y_0c2, .slice y_0a3 y_0n3 y_0c3, .slice y_0a4 y_0n4 y_0c4, .slice y_a1 y_n1 y_c1, .slice y_a2 y_n2 y_c2, .slice y_a3 y_n3 y_c3] 80)) := More.refl _
  have HB : ∀ w', More ((w.alloc (.cells #[.int .i64 x.1.1.1, .int .i64 x.1.1.2, .int .i64 x.1.2.1.1, .int .i64 x.1.2.1.2, .slice x_0a2 x_0n2 x_0c2, .slice x_0a3 x_0n3 x_0c3, .slice x_0a4 x_0n4 x_0c4, .slice x_a1 x_n1 x_c1, .slice x_a2 x_n2 x_c2, .slice x_a3 x_n3 x_c3] 80)).alloc (.cells #[.int .i64 y.1.1.1, .int .i64 y.1.1.2, .int .i64 y.1.2.1.1, .int .i64 y.1.2.1.2, .slice y_0a2 y_0n2 y_0c2, .slice y_0a3 y_0n3 y_0c3, .slice y_0a4 y_0n4 y_0c4, .slice y_a1 y_n1 y_c1, .slice y_a2 y_n2 y_c2, .slice y_a3 y_n3 y_c3] 80)) w' → w'.cell? ⟨w.heap.size, 0, none⟩ = some (.int .i64 x.1.1.1) ∧ w'.cell? ⟨w.heap.size, 1, none⟩ = some (.int .i64 x.1.1.2) ∧ w'.cell? ⟨w.heap.size, 2, none⟩ = some (.int .i64 x.1.2.1.1) ∧ w'.cell? ⟨w.heap.size, 3, none⟩ = some (.int .i64 x.1.2.1.2) ∧ w'.cell? ⟨w.heap.size, 4, none⟩ = some (.slice x_0a2 x_0n2 x_0c2) ∧ w'.cell? ⟨w.heap.size, 5, none⟩ = some (.slice x_0a3 x_0n3 x_0c3) ∧ w'.cell? ⟨w.heap.size, 6, none⟩ = some (.slice x_0a4 x_0n4 x_0c4) ∧ w'.cell? ⟨w.heap.size, 7, none⟩ = some (.slice x_a1 x_n1 x_c1) ∧ w'.cell? ⟨w.heap.size, 8, none⟩ = some (.slice x_a2 x_n2 x_c2) ∧ w'.cell? ⟨w.heap.size, 9, none⟩ = some (.slice x_a3 x_n3 x_c3) ∧ (∀ j, w'.frozen? ⟨w.heap.size, j, none⟩ = false) ∧ w'.cell? ⟨w.heap.size + 1, 0, none⟩ = some (.int .i64 y.1.1.1) ∧ w'.cell? ⟨w.heap.size + 1, 1, none⟩ = some (.int .i64 y.1.1.2) ∧ w'.cell? ⟨w.heap.size + 1, 2, none⟩ = some (.int .i64 y.1.2.1.1) ∧ w'.cell? ⟨w.heap.size + 1, 3, none⟩ = some (.int .i64 y.1.2.1.2) ∧ w'.cell? ⟨w.heap.size + 1, 4, none⟩ = some (.slice y_0a2 y_0n2 y_0c2) ∧ w'.cell? ⟨w.heap.size + 1, 5, none⟩ = some (.slice y_0a3 y_0n3 y_0c3) ∧ w'.cell? ⟨w.heap.size + 1, 6, none⟩ = some (.slice y_0a4 y_0n4 y_0c4) ∧ w'.cell? ⟨w.heap.size + 1, 7, none⟩ = some (.slice y_a1 y_n1 y_c1) ∧ w'.cell? ⟨w.heap.size + 1, 8, none⟩ = some (.slice y_a2 y_n2 y_c2) ∧ w'.cell? ⟨w.heap.size + 1, 9, none⟩ = some (.slice y_a3 y_n3 y_c3) ∧ (∀ j, w'.frozen? ⟨w.heap.size + 1, j, none⟩ = false) := fun w' h => ⟨box_new (by simp) (More.un h) 0, box_new (by simp) (More.un h) 1, box_new (by simp) (More.un h) 2, box_new (by simp) (More.un h) 3, box_new (by simp) (More.un h) 4, box_new (by simp) (More.un h) 5, box_new (by simp) (More.un h) 6, box_new (by simp) (More.un h) 7, box_new (by simp) (More.un h) 8, box_new (by simp) (More.un h) 9, fun j => box_free (by simp) (More.un h) j, box_new (by simp) h 0, box_new (by simp) h 1, box_new (by simp) h 2, box_new (by simp) h 3, box_new (by simp) h 4, box_new (by simp) h 5, box_new (by simp) h 6, box_new (by simp) h 7, box_new (by simp) h 8, box_new (by simp) h 9, fun j => box_free (by simp) h j⟩
  go_enter Try.func37, Try.ntmps37
  go_wp2_with (first | (go_at_call 110; (with_reducible refine (impl_SameScene _ _ x.1 y.1 _ (Ty.at_more FX0.out mC) (Ty.at_more FY0.out mC) HWX0.out HWY0.out).mono ?_); rintro e w1 ⟨rfl, hb1⟩; have HX : More ((w.alloc (.cells #[.int .i64 x.1.1.1, .int .i64 x.1.1.2, .int .i64 x.1.2.1.1, .int .i64 x.1.2.1.2, .slice x_0a2 x_0n2 x_0c2, .slice x_0a3 x_0n3 x_0c3, .slice x_0a4 x_0n4 x_0c4, .slice x_a1 x_n1 x_c1, .slice x_a2 x_n2 x_c2, .slice x_a3 x_n3 x_c3] 80)).alloc (.cells #[.int .i64 y.1.1.1, .int .i64 y.1.1.2, .int .i64 y.1.2.1.1, .int .i64 y.1.2.1.2, .slice y_0a2 y_0n2 y_0c2, .slice y_0a3 y_0n3 y_0c3, .slice y_0a4 y_0n4 y_0c4, .slice y_a1 y_n1 y_c1, .slice y_a2 y_n2 y_c2, .slice y_a3 y_n3 y_c3] 80)) _ := More.trans (by assumption) hb1; have HBw := HB _ HX) | (go_at_call 111; (with_reducible refine (equalFunc_SliceS _ _ x.2.1 y.2.1 _ (Ty.at_more FX1.out mC) (Ty.at_more FY1.out mC) HWX1.out HWY1.out).mono ?_); rintro e w1 ⟨rfl, hb1⟩; have HX : More ((w.alloc (.cells #[.int .i64 x.1.1.1, .int .i64 x.1.1.2, .int .i64 x.1.2.1.1, .int .i64 x.1.2.1.2, .slice x_0a2 x_0n2 x_0c2, .slice x_0a3 x_0n3 x_0c3, .slice x_0a4 x_0n4 x_0c4, .slice x_a1 x_n1 x_c1, .slice x_a2 x_n2 x_c2, .slice x_a3 x_n3 x_c3] 80)).alloc (.cells #[.int .i64 y.1.1.1, .int .i64 y.1.1.2, .int .i64 y.1.2.1.1, .int .i64 y.1.2.1.2, .slice y_0a2 y_0n2 y_0c2, .slice y_0a3 y_0n3 y_0c3, .slice y_0a4 y_0n4 y_0c4, .slice y_a1 y_n1 y_c1, .slice y_a2 y_n2 y_c2, .slice y_a3 y_n3 y_c3] 80)) _ := More.trans (by assumption) hb1; have HBw := HB _ HX) | (go_at_call 99; (with_reducible refine (slicesEqual_IntS _ _ x.2.2.1 y.2.2.1 _ (Ty.at_more FX2.out mC) (Ty.at_more FY2.out mC) HWX2.out HWY2.out).mono ?_); rintro e w1 ⟨rfl, hb1⟩; have HX : More ((w.alloc (.cells #[.int .i64 x.1.1.1, .int .i64 x.1.1.2, .int .i64 x.1.2.1.1, .int .i64 x.1.2.1.2, .slice x_0a2 x_0n2 x_0c2, .slice x_0a3 x_0n3 x_0c3, .slice x_0a4 x_0n4 x_0c4, .slice x_a1 x_n1 x_c1, .slice x_a2 x_n2 x_c2, .slice x_a3 x_n3 x_c3] 80)).alloc (.cells #[.int .i64 y.1.1.1, .int .i64 y.1.1.2, .int .i64 y.1.2.1.1, .int .i64 y.1.2.1.2, .slice y_0a2 y_0n2 y_0c2, .slice y_0a3 y_0n3 y_0c3, .slice y_0a4 y_0n4 y_0c4, .slice y_a1 y_n1 y_c1, .slice y_a2 y_n2 y_c2, .slice y_a3 y_n3 y_c3] 80)) _ := More.trans (by assumption) hb1; have HBw := HB _ HX) | (go_at_call 112; (with_reducible refine (equalFunc_IntSS _ _ x.2.2.2 y.2.2.2 _ (Ty.at_more FX3.out mC) (Ty.at_more FY3.out mC) HWX3.out HWY3.out).mono ?_); rintro e w1 ⟨rfl, hb1⟩; have HX : More ((w.alloc (.cells #[.int .i64 x.1.1.1, .int .i64 x.1.1.2, .int .i64 x.1.2.1.1, .int .i64 x.1.2.1.2, .slice x_0a2 x_0n2 x_0c2, .slice x_0a3 x_0n3 x_0c3, .slice x_0a4 x_0n4 x_0c4, .slice x_a1 x_n1 x_c1, .slice x_a2 x_n2 x_c2, .slice x_a3 x_n3 x_c3] 80)).alloc (.cells #[.int .i64 y.1.1.1, .int .i64 y.1.1.2, .int .i64 y.1.2.1.1, .int .i64 y.1.2.1.2, .slice y_0a2 y_0n2 y_0c2, .slice y_0a3 y_0n3 y_0c3, .slice y_0a4 y_0n4 y_0c4, .slice y_a1 y_n1 y_c1, .slice y_a2 y_n2 y_c2, .slice y_a3 y_n3 y_c3] 80)) _ := More.trans (by assumption) hb1; have HBw := HB _ HX))
  go_ret
  exact ⟨ret_bool (decide_eq_true EQ.out).symm, mC⟩
end Go.Proofs.Ytbbibfeblaocfaa
