/- Equality of lists of cells, walls, doors. -/
import Derived.Test.YtbbibfeblaocfaaEqCw
import Derived.Test.YtbbibfeblaocfaaLdm
import Derived.Test.YtbbibfeblaocfaaEqFs
import Derived.Deep.RegionHeld3
import Derived.Deep.QuietTactic
import Derived.BigQuiet
import Derived.Laws.StructEq
namespace Go.Proofs.Ytbbibfeblaocfaa
open Go.RowKit
set_option maxRecDepth 8000 in
set_option maxHeartbeats 3200000 in
theorem equalFunc_WallS (v v' : Value) (l m : List (QWall)) (w : World) (hv : tWallS.at w [v] l) (hv' : tWallS.at w [v'] m) (hl : wWallS l ≤ 1048576) (hm : wWallS m ≤ 1048576) :
    Calls Try.prog 96 #[v, v', .func (.func 97) #[] #[]] w fun e w' => e = .returned (.bool (decide (l = m))) ∧ More w w' := by
  obtain ⟨ao, cap, rfl⟩ := sl_len hv
  obtain ⟨ao', cap', rfl⟩ := sl_len hv'
  have HV := Lib.hid hv; clear hv
  have HV' := Lib.hid hv'; clear hv'
  have HWl : Hid (l.length + wsum wWall l ≤ 1048576) := Lib.hid hl; have HWm : Hid (m.length + wsum wWall m ≤ 1048576) := Lib.hid hm
  have hl : l.length ≤ 1048576 := by have := HWl.out; omega
  have hm : m.length ≤ 1048576 := by have := HWm.out; omega
  obtain ⟨n, hn⟩ : ∃ n, n = l.length := ⟨_, rfl⟩
  obtain ⟨n', hn'⟩ : ∃ n', n' = m.length := ⟨_, rfl⟩
  rw [← hn] at HV hl ⊢
  rw [← hn'] at HV' hm ⊢
  have HN := Lib.hid hn; have HN' := Lib.hid hn'; clear hn hn'
  by_cases hne : n = n'
  · subst hne
    go_enter Try.func96, Try.ntmps96
    go_wp2_with fail
    go_loopw [17] (fun i wr => ∃ k : Nat, k ≤ n ∧ i = .int .i64 k ∧ More w wr ∧ Hid (∀ j, j < k → l[j]? = m[j]?)) (fun i _ => n - (intOf i).toNat)
    case atStart => exact ⟨0, Nat.zero_le _, rfl, More.refl _, Lib.hid (fun j hj => by omega)⟩
    case round =>
      obtain ⟨k, hk, rfl, hmr, HE⟩ := hrel
      by_cases hlt : k < n
      · obtain ⟨b, off, x, a1, n1, c1, a2, n2, c2, a4, n4, c4, a5, n5, c5, a7, n7, c7, a8, n8, c8, rfl, hblt, hx, hat, c0_, c1_, c2_, c3_, c4_, c5_, c6_, c7_, c8_⟩ := el_Wall (Ty.at_more HV.out hmr) (k := k) (by rw [← HN.out]; exact hlt)
        obtain ⟨b', off', y, sa1, sn1, sc1, sa2, sn2, sc2, sa4, sn4, sc4, sa5, sn5, sc5, sa7, sn7, sc7, sa8, sn8, sc8, rfl, hblt', hy, hat', d0_, d1_, d2_, d3_, d4_, d5_, d6_, d7_, d8_⟩ := el_Wall (Ty.at_more HV'.out hmr) (k := k) (by rw [← HN'.out]; exact hlt)
        have HX := Lib.hid hx; have HX' := Lib.hid hy; clear hx hy
        have HA := Lib.hid hat; have HA' := Lib.hid hat'; clear hat hat'
        have hi0 : (0 : Int) ≤ (k : Int) := by omega
        have hi1 : (k : Int) < (n : Int) := by omega
        have nb : b ≠ wr.heap.size := by omega
        have nb' : b' ≠ wr.heap.size := by omega
        rcases Bool.eq_false_or_eq_true (decide (x = y)) with hd | hd
        rotate_left
        · have HD := Lib.hid hd
          go_wp2_with fail
          refine (impl_sameWall _ _ x y _ (Ty.at_more HA.out mC) (Ty.at_more HA'.out mC) (by have := wsum_el (f := wWall) HX.out; have := HWl.out; omega) (by have := wsum_el (f := wWall) HX'.out; have := HWm.out; omega)).mono ?_
          rintro e w1 ⟨rfl, hb1⟩
          rw [hd]
          go_wp2_with fail
          go_ret
          exact ⟨ret_bool (decide_eq_false (fun e => by
            have h1 := HX.out; have h2 := HX'.out
            rw [e, h2] at h1
            obtain rfl := Option.some.inj h1
            simp at hd)).symm, mC⟩
        have EQ : Hid (x = y) := Lib.hid (of_decide_eq_true hd)
        go_wp2_with fail
        refine (impl_sameWall _ _ x y _ (Ty.at_more HA.out mC) (Ty.at_more HA'.out mC) (by have := wsum_el (f := wWall) HX.out; have := HWl.out; omega) (by have := wsum_el (f := wWall) HX'.out; have := HWm.out; omega)).mono ?_
        rintro e w1 ⟨rfl, hb1⟩
        rw [hd]
        go_wp2_with fail
        go_roundw
        case rel => exact ⟨k + 1, by omega, by go_num, mC, Lib.hid (fun j hj => by
          rcases Nat.lt_succ_iff_lt_or_eq.1 hj with h | rfl
          · exact HE.out j h
          · rw [HX.out, HX'.out, EQ.out])⟩
        case measure => simp [intOf]; omega
      · go_wp2_with fail
        go_ret
        obtain rfl : k = n := by omega
        exact ⟨ret_bool (decide_eq_true (el_ext HN.out.symm HN'.out.symm HE.out)).symm, hmr⟩
  · have hne' : ((n : Int) != (n' : Int)) = true := by simp; omega
    go_enter Try.func96, Try.ntmps96
    go_wp2_with fail
    go_ret
    exact ⟨ret_bool (decide_eq_false (fun e => hne (by rw [HN.out, HN'.out, e]))).symm, More.refl _⟩
set_option maxRecDepth 8000 in
set_option maxHeartbeats 3200000 in
theorem equalFunc_CellS (v v' : Value) (l m : List (QCell)) (w : World) (hv : tCellS.at w [v] l) (hv' : tCellS.at w [v'] m) (hl : wCellS l ≤ 1048576) (hm : wCellS m ≤ 1048576) :
    Calls Try.prog 94 #[v, v', .func (.func 95) #[] #[]] w fun e w' => e = .returned (.bool (decide (l = m))) ∧ More w w' := by
  obtain ⟨ao, cap, rfl⟩ := sl_len hv
  obtain ⟨ao', cap', rfl⟩ := sl_len hv'
  have HV := Lib.hid hv; clear hv
  have HV' := Lib.hid hv'; clear hv'
  have HWl : Hid (l.length + wsum wCell l ≤ 1048576) := Lib.hid hl; have HWm : Hid (m.length + wsum wCell m ≤ 1048576) := Lib.hid hm
  have hl : l.length ≤ 1048576 := by have := HWl.out; omega
  have hm : m.length ≤ 1048576 := by have := HWm.out; omega
  obtain ⟨n, hn⟩ : ∃ n, n = l.length := ⟨_, rfl⟩
  obtain ⟨n', hn'⟩ : ∃ n', n' = m.length := ⟨_, rfl⟩
  rw [← hn] at HV hl ⊢
  rw [← hn'] at HV' hm ⊢
  have HN := Lib.hid hn; have HN' := Lib.hid hn'; clear hn hn'
  by_cases hne : n = n'
  · subst hne
    go_enter Try.func94, Try.ntmps94
    go_wp2_with fail
    go_loopw [17] (fun i wr => ∃ k : Nat, k ≤ n ∧ i = .int .i64 k ∧ More w wr ∧ Hid (∀ j, j < k → l[j]? = m[j]?)) (fun i _ => n - (intOf i).toNat)
    case atStart => exact ⟨0, Nat.zero_le _, rfl, More.refl _, Lib.hid (fun j hj => by omega)⟩
    case round =>
      obtain ⟨k, hk, rfl, hmr, HE⟩ := hrel
      by_cases hlt : k < n
      · obtain ⟨b, off, x, c, rfl, hblt, hx, hat, hlen, hr⟩ := el_range (Ty.at_more HV.out hmr) (k := k) (by rw [← HN.out]; exact hlt)
        obtain ⟨b', off', y, c', rfl, hblt', hy, hat', hlen', hr'⟩ := el_range (Ty.at_more HV'.out hmr) (k := k) (by rw [← HN'.out]; exact hlt)
        have hlen : c.length = 18 := hlen
        have hlen' : c'.length = 18 := hlen'
        have HL := Lib.hid hlen; have HL' := Lib.hid hlen'; clear hlen hlen'
        have hr : ∀ w', More wr w' → w'.rangeAt b (off + k * 18) c := hr
        have hr' : ∀ w', More wr w' → w'.rangeAt b' (off' + k * 18) c' := hr'
        have HR := Lib.hid hr; have HR' := Lib.hid hr'; clear hr hr'
        have HX := Lib.hid hx; have HX' := Lib.hid hy; clear hx hy
        have HA := Lib.hid hat; have HA' := Lib.hid hat'; clear hat hat'
        have hi0 : (0 : Int) ≤ (k : Int) := by omega
        have hi1 : (k : Int) < (n : Int) := by omega
        have nb : b ≠ wr.heap.size := by omega
        have nb' : b' ≠ wr.heap.size := by omega
        rcases Bool.eq_false_or_eq_true (decide (x = y)) with hd | hd
        rotate_left
        · have HD := Lib.hid hd
          go_wp2_with (first | (refine wpList_load_mid rfl _ _ rfl b (off + k * 18) rfl c _ (HR.out _ mC) Try.underlying102 rfl (by rw [HL.out]; kernel_rfl) ?_) | (refine wpList_load_mid rfl _ _ rfl b' (off' + k * 18) rfl c' _ (HR'.out _ mC) Try.underlying102 rfl (by rw [HL'.out]; kernel_rfl) ?_) | (refine wpList_load_mid rfl _ _ rfl wr.heap.size 0 rfl c _ (range_keep mC hl1.out hr1.out) Try.underlying102 rfl (by rw [HL.out]; kernel_rfl) ?_) | (refine wpList_load_mid rfl _ _ rfl v1.heap.size 0 rfl c' _ (range_keep mC hl2.out hr2.out) Try.underlying102 rfl (by rw [HL'.out]; kernel_rfl) ?_) | (refine wpList_store_new rfl 102 _ _ rfl wr.heap.size rfl c rfl rfl (by rw [HL.out]; rfl) (by rw [HL.out]; kernel_rfl) (Ty.one _ HA.out) ?_; intro v1 hm1 q1 q2; have hl1 := Lib.hid q1; have hr1 := Lib.hid q2; clear q1 q2) | (refine wpList_store_new rfl 102 _ _ rfl v1.heap.size rfl c' rfl rfl (by rw [HL'.out]; rfl) (by rw [HL'.out]; kernel_rfl) (Ty.one _ HA'.out) ?_; intro v2 hm2 q1 q2; have hl2 := Lib.hid q1; have hr2 := Lib.hid q2; clear q1 q2))
          refine (impl_sameCell c c' x y _ (Ty.at_more HA.out mC) (Ty.at_more HA'.out mC) (by have := wsum_el (f := wCell) HX.out; have := HWl.out; omega) (by have := wsum_el (f := wCell) HX'.out; have := HWm.out; omega)).mono ?_
          rintro e w1 ⟨rfl, hb1⟩
          rw [hd]
          go_wp2_with fail
          go_ret
          exact ⟨ret_bool (decide_eq_false (fun e => by
            have h1 := HX.out; have h2 := HX'.out
            rw [e, h2] at h1
            obtain rfl := Option.some.inj h1
            simp at hd)).symm, mC⟩
        have EQ : Hid (x = y) := Lib.hid (of_decide_eq_true hd)
        go_wp2_with (first | (refine wpList_load_mid rfl _ _ rfl b (off + k * 18) rfl c _ (HR.out _ mC) Try.underlying102 rfl (by rw [HL.out]; kernel_rfl) ?_) | (refine wpList_load_mid rfl _ _ rfl b' (off' + k * 18) rfl c' _ (HR'.out _ mC) Try.underlying102 rfl (by rw [HL'.out]; kernel_rfl) ?_) | (refine wpList_load_mid rfl _ _ rfl wr.heap.size 0 rfl c _ (range_keep mC hl1.out hr1.out) Try.underlying102 rfl (by rw [HL.out]; kernel_rfl) ?_) | (refine wpList_load_mid rfl _ _ rfl v1.heap.size 0 rfl c' _ (range_keep mC hl2.out hr2.out) Try.underlying102 rfl (by rw [HL'.out]; kernel_rfl) ?_) | (refine wpList_store_new rfl 102 _ _ rfl wr.heap.size rfl c rfl rfl (by rw [HL.out]; rfl) (by rw [HL.out]; kernel_rfl) (Ty.one _ HA.out) ?_; intro v1 hm1 q1 q2; have hl1 := Lib.hid q1; have hr1 := Lib.hid q2; clear q1 q2) | (refine wpList_store_new rfl 102 _ _ rfl v1.heap.size rfl c' rfl rfl (by rw [HL'.out]; rfl) (by rw [HL'.out]; kernel_rfl) (Ty.one _ HA'.out) ?_; intro v2 hm2 q1 q2; have hl2 := Lib.hid q1; have hr2 := Lib.hid q2; clear q1 q2))
        refine (impl_sameCell c c' x y _ (Ty.at_more HA.out mC) (Ty.at_more HA'.out mC) (by have := wsum_el (f := wCell) HX.out; have := HWl.out; omega) (by have := wsum_el (f := wCell) HX'.out; have := HWm.out; omega)).mono ?_
        rintro e w1 ⟨rfl, hb1⟩
        rw [hd]
        go_wp2_with fail
        go_roundw
        case rel => exact ⟨k + 1, by omega, by go_num, mC, Lib.hid (fun j hj => by
          rcases Nat.lt_succ_iff_lt_or_eq.1 hj with h | rfl
          · exact HE.out j h
          · rw [HX.out, HX'.out, EQ.out])⟩
        case measure => simp [intOf]; omega
      · go_wp2_with fail
        go_ret
        obtain rfl : k = n := by omega
        exact ⟨ret_bool (decide_eq_true (el_ext HN.out.symm HN'.out.symm HE.out)).symm, hmr⟩
  · have hne' : ((n : Int) != (n' : Int)) = true := by simp; omega
    go_enter Try.func94, Try.ntmps94
    go_wp2_with fail
    go_ret
    exact ⟨ret_bool (decide_eq_false (fun e => hne (by rw [HN.out, HN'.out, e]))).symm, More.refl _⟩
set_option maxRecDepth 8000 in
set_option maxHeartbeats 3200000 in
theorem slicesEqual_DoorS (v v' : Value) (l m : List (QDoor)) (w : World) (hv : tDoorS.at w [v] l) (hv' : tDoorS.at w [v'] m) (hl : l.length ≤ 1048576) (hm : m.length ≤ 1048576) :
    Calls Try.prog 98 #[v, v'] w fun e w' => e = .returned (.bool (decide (l = m))) ∧ More w w' := by
  obtain ⟨ao, cap, rfl⟩ := sl_len hv
  obtain ⟨ao', cap', rfl⟩ := sl_len hv'
  have HV := Lib.hid hv; clear hv
  have HV' := Lib.hid hv'; clear hv'
  skip
  obtain ⟨n, hn⟩ : ∃ n, n = l.length := ⟨_, rfl⟩
  obtain ⟨n', hn'⟩ : ∃ n', n' = m.length := ⟨_, rfl⟩
  rw [← hn] at HV hl ⊢
  rw [← hn'] at HV' hm ⊢
  have HN := Lib.hid hn; have HN' := Lib.hid hn'; clear hn hn'
  by_cases hne : n = n'
  · subst hne
    go_enter Try.func98, Try.ntmps98
    go_wp2_with fail
    go_loopw [13] (fun i wr => ∃ k : Nat, k ≤ n ∧ i = .int .i64 k ∧ More w wr ∧ Hid (∀ j, j < k → l[j]? = m[j]?)) (fun i _ => n - (intOf i).toNat)
    case atStart => exact ⟨0, Nat.zero_le _, rfl, More.refl _, Lib.hid (fun j hj => by omega)⟩
    case round =>
      obtain ⟨k, hk, rfl, hmr, HE⟩ := hrel
      by_cases hlt : k < n
      · obtain ⟨b, off, x, rfl, hblt, hx, hat, c0_, c1_⟩ := el_Door (Ty.at_more HV.out hmr) (k := k) (by rw [← HN.out]; exact hlt)
        obtain ⟨b', off', y, rfl, hblt', hy, hat', d0_, d1_⟩ := el_Door (Ty.at_more HV'.out hmr) (k := k) (by rw [← HN'.out]; exact hlt)
        have HX := Lib.hid hx; have HX' := Lib.hid hy; clear hx hy
        have HA := Lib.hid hat; have HA' := Lib.hid hat'; clear hat hat'
        have hi0 : (0 : Int) ≤ (k : Int) := by omega
        have hi1 : (k : Int) < (n : Int) := by omega
        have nb : b ≠ wr.heap.size := by omega
        have nb' : b' ≠ wr.heap.size := by omega
        rcases Bool.eq_false_or_eq_true (x.1 == y.1) with a0 | a0
        rotate_left
        · have A0 := Lib.hid a0
          go_wp2_with fail
          go_quiet (fail)
          go_wp2_with fail
          go_ret
          exact ⟨ret_bool (decide_eq_false (fun e => by
            have h1 := HX.out; have h2 := HX'.out
            rw [e, h2] at h1
            obtain rfl := Option.some.inj h1
            simp at a0)).symm, mC⟩
        rcases Bool.eq_false_or_eq_true (x.2 == y.2) with a1 | a1
        rotate_left
        · have A1 := Lib.hid a1
          go_wp2_with fail
          go_quiet (fail)
          go_wp2_with fail
          go_ret
          exact ⟨ret_bool (decide_eq_false (fun e => by
            have h1 := HX.out; have h2 := HX'.out
            rw [e, h2] at h1
            obtain rfl := Option.some.inj h1
            simp at a1)).symm, mC⟩
        have EQ : Hid (x = y) := Lib.hid (Prod.ext (eq_of_beq a0) (eq_of_beq a1))
        go_wp2_with fail
        go_quiet (fail)
        go_wp2_with fail
        go_roundw
        case rel => exact ⟨k + 1, by omega, by go_num, mC, Lib.hid (fun j hj => by
          rcases Nat.lt_succ_iff_lt_or_eq.1 hj with h | rfl
          · exact HE.out j h
          · rw [HX.out, HX'.out, EQ.out])⟩
        case measure => simp [intOf]; omega
      · go_wp2_with fail
        go_ret
        obtain rfl : k = n := by omega
        exact ⟨ret_bool (decide_eq_true (el_ext HN.out.symm HN'.out.symm HE.out)).symm, hmr⟩
  · have hne' : ((n : Int) != (n' : Int)) = true := by simp; omega
    go_enter Try.func98, Try.ntmps98
    go_wp2_with fail
    go_ret
    exact ⟨ret_bool (decide_eq_false (fun e => hne (by rw [HN.out, HN'.out, e]))).symm, More.refl _⟩
def frm (x : QSlice) := (x.1, x.2.1, x.2.2.1, x.2.2.2.1)
set_option maxRecDepth 8000 in
set_option maxHeartbeats 3200000 in
theorem impl_sameFrame (cs ds : List Value) (x y : QSlice) (w : World) (hv : tSlc.at w cs x) (hv' : tSlc.at w ds y) (hw : wSlice x ≤ 1048576) (hw' : wSlice y ≤ 1048576) :
    Calls Try.prog 93 #[.agg cs.toArray, .agg ds.toArray] w fun e w' => e = .returned (.bool (decide (frm x = frm y))) ∧ More w w' := by
  obtain ⟨x_k0, x_d0, rfl, x_f0, x_e0⟩ := at_prod hv
  obtain ⟨x_k1, x_d1, rfl, x_f1, x_e1⟩ := at_prod x_e0
  obtain ⟨x_k2, x_d2, rfl, x_f2, x_e2⟩ := at_prod x_e1
  obtain ⟨x_k3, x_d3, rfl, x_f3, x_e3⟩ := at_prod x_e2
  obtain ⟨x_k4, x_d4, rfl, x_f4, x_e4⟩ := at_prod x_e3
  obtain ⟨x_k5, x_d5, rfl, x_f5, x_e5⟩ := at_prod x_e4
  obtain ⟨x_k6, x_d6, rfl, x_f6, x_e6⟩ := at_prod x_e5
  have x_f7 := x_e6
  obtain rfl := sh_int x_f0
  obtain rfl := sh_bool x_f1
  obtain ⟨x_2k0, x_2d0, rfl, x_2f0, x_2e0⟩ := at_prod x_f2
  have x_2f1 := x_2e0
  obtain ⟨x_20k0, x_20d0, rfl, x_20f0, x_20e0⟩ := at_prod x_2f0
  have x_20f1 := x_20e0
  obtain rfl := sh_int x_20f0
  obtain rfl := sh_int x_20f1
  obtain ⟨x_21k0, x_21d0, rfl, x_21f0, x_21e0⟩ := at_prod x_2f1
  have x_21f1 := x_21e0
  obtain rfl := sh_int x_21f0
  obtain rfl := sh_int x_21f1
  obtain ⟨x_a3, x_n3, x_c3, rfl⟩ := sh_slice x_f3
  obtain ⟨x_a4, x_n4, x_c4, rfl⟩ := sh_slice x_f4
  obtain ⟨x_a5, x_n5, x_c5, rfl⟩ := sh_slice x_f5
  obtain ⟨x_a6, x_n6, x_c6, rfl⟩ := sh_slice x_f6
  obtain ⟨x_a7, x_n7, x_c7, rfl⟩ := sh_slice x_f7
  obtain ⟨y_k0, y_d0, rfl, y_f0, y_e0⟩ := at_prod hv'
  obtain ⟨y_k1, y_d1, rfl, y_f1, y_e1⟩ := at_prod y_e0
  obtain ⟨y_k2, y_d2, rfl, y_f2, y_e2⟩ := at_prod y_e1
  obtain ⟨y_k3, y_d3, rfl, y_f3, y_e3⟩ := at_prod y_e2
  obtain ⟨y_k4, y_d4, rfl, y_f4, y_e4⟩ := at_prod y_e3
  obtain ⟨y_k5, y_d5, rfl, y_f5, y_e5⟩ := at_prod y_e4
  obtain ⟨y_k6, y_d6, rfl, y_f6, y_e6⟩ := at_prod y_e5
  have y_f7 := y_e6
  obtain rfl := sh_int y_f0
  obtain rfl := sh_bool y_f1
  obtain ⟨y_2k0, y_2d0, rfl, y_2f0, y_2e0⟩ := at_prod y_f2
  have y_2f1 := y_2e0
  obtain ⟨y_20k0, y_20d0, rfl, y_20f0, y_20e0⟩ := at_prod y_2f0
  have y_20f1 := y_20e0
  obtain rfl := sh_int y_20f0
  obtain rfl := sh_int y_20f1
  obtain ⟨y_21k0, y_21d0, rfl, y_21f0, y_21e0⟩ := at_prod y_2f1
  have y_21f1 := y_21e0
  obtain rfl := sh_int y_21f0
  obtain rfl := sh_int y_21f1
  obtain ⟨y_a3, y_n3, y_c3, rfl⟩ := sh_slice y_f3
  obtain ⟨y_a4, y_n4, y_c4, rfl⟩ := sh_slice y_f4
  obtain ⟨y_a5, y_n5, y_c5, rfl⟩ := sh_slice y_f5
  obtain ⟨y_a6, y_n6, y_c6, rfl⟩ := sh_slice y_f6
  obtain ⟨y_a7, y_n7, y_c7, rfl⟩ := sh_slice y_f7
  have FX3 := Lib.hid x_f3; have FY3 := Lib.hid y_f3
  have HWX3 : Hid (wVecSS x.2.2.2.1 ≤ 1048576) := Lib.hid (by have := hw; unfold wSlice at this; omega)
  have HWY3 : Hid (wVecSS y.2.2.2.1 ≤ 1048576) := Lib.hid (by have := hw'; unfold wSlice at this; omega)
  clear hw hw'
  try clear x_20e0
  try clear x_20f0
  try clear x_20f1
  try clear x_21e0
  try clear x_21f0
  try clear x_21f1
  try clear x_2e0
  try clear x_2f0
  try clear x_2f1
  try clear x_e0
  try clear x_e1
  try clear x_e2
  try clear x_e3
  try clear x_e4
  try clear x_e5
  try clear x_e6
  try clear x_f0
  try clear x_f1
  try clear x_f2
  try clear x_f3
  try clear x_f4
  try clear x_f5
  try clear x_f6
  try clear x_f7
  try clear y_20e0
  try clear y_20f0
  try clear y_20f1
  try clear y_21e0
  try clear y_21f0
  try clear y_21f1
  try clear y_2e0
  try clear y_2f0
  try clear y_2f1
  try clear y_e0
  try clear y_e1
  try clear y_e2
  try clear y_e3
  try clear y_e4
  try clear y_e5
  try clear y_e6
  try clear y_f0
  try clear y_f1
  try clear y_f2
  try clear y_f3
  try clear y_f4
  try clear y_f5
  try clear y_f6
  try clear y_f7
  try clear hv
  try clear hv'
  show Calls Try.prog 93 #[.agg #[.int .i64 x.1, .bool x.2.1, .int .i64 x.2.2.1.1.1, .int .i64 x.2.2.1.1.2, .int .i64 x.2.2.1.2.1, .int .i64 x.2.2.1.2.2, .slice x_a3 x_n3 x_c3, .slice x_a4 x_n4 x_c4, .slice x_a5 x_n5 x_c5, .slice x_a6 x_n6 x_c6, .slice x_a7 x_n7 x_c7], .agg #[.int .i64 y.1, .bool y.2.1, .int .i64 y.2.2.1.1.1, .int .i64 y.2.2.1.1.2, .int .i64 y.2.2.1.2.1, .int .i64 y.2.2.1.2.2, .slice y_a3 y_n3 y_c3, .slice y_a4 y_n4 y_c4, .slice y_a5 y_n5 y_c5, .slice y_a6 y_n6 y_c6, .slice y_a7 y_n7 y_c7]] w _
  rcases Bool.eq_false_or_eq_true (x.1 == y.1) with a0 | a0
  rotate_left
  · have A0 := Lib.hid a0
    have HX : More ((w.alloc (.cells #[.int .i64 x.1, .bool x.2.1, .int .i64 x.2.2.1.1.1, .int .i64 x.2.2.1.1.2, .int .i64 x.2.2.1.2.1, .int .i64 x.2.2.1.2.2, .slice x_a3 x_n3 x_c3, .slice x_a4 x_n4 x_c4, .slice x_a5 x_n5 x_c5, .slice x_a6 x_n6 x_c6, .slice x_a7 x_n7 x_c7] 69)).alloc (.cells #[.int .i64 y.1, .bool y.2.1, .int .i64 y.2.2.1.1.1, .int .i64 y.2.2.1.1.2, .int .i64 y.2.2.1.2.1, .int .i64 y.2.2.1.2.2, .slice y_a3 y_n3 y_c3, .slice y_a4 y_n4 y_c4, .slice y_a5 y_n5 y_c5, .slice y_a6 y_n6 y_c6, .slice y_a7 y_n7 y_c7] 69)) ((w.alloc (.cells #[.int .i64 x.1, .bool x.2.1, .int .i64 x.2.2.1.1.1, .int .i64 x.2.2.1.1.2, .int .i64 x.2.2.1.2.1, .int .i64 x.2.2.1.2.2, .slice x_a3 x_n3 x_c3, .slice x_a4 x_n4 x_c4, .slice x_a5 x_n5 x_c5, .slice x_a6 x_n6 x_c6, .slice x_a7 x_n7 x_c7] 69)).alloc (.cells #[.int .i64 y.1, .bool y.2.1, .int .i64 y.2.2.1.1.1, .int .i64 y.2.2.1.1.2, .int .i64 y.2.2.1.2.1, .int .i64 y.2.2.1.2.2, .slice y_a3 y_n3 y_c3, .slice y_a4 y_n4 y_c4, .slice y_a5 y_n5 y_c5, .slice y_a6 y_n6 y_c6, .slice y_a7 y_n7 y_c7] 69)) := More.refl _
    have HB : ∀ w', More ((w.alloc (.cells #[.int .i64 x.1, .bool x.2.1, .int .i64 x.2.2.1.1.1, .int .i64 x.2.2.1.1.2, .int .i64 x.2.2.1.2.1, .int .i64 x.2.2.1.2.2, .slice x_a3 x_n3 x_c3, .slice x_a4 x_n4 x_c4, .slice x_a5 x_n5 x_c5, .slice x_a6 x_n6 x_c6, .slice x_a7 x_n7 x_c7] 69)).alloc (.cells #[.int .i64 y.1, .bool y.2.1, .int .i64 y.2.2.1.1.1, .int .i64 y.2.2.1.1.2, .int .i64 y.2.2.1.2.1, .int .i64 y.2.2.1.2.2, .slice y_a3 y_n3 y_c3, .slice y_a4 y_n4 y_c4, .slice y_a5 y_n5 y_c5, .slice y_a6 y_n6 y_c6, .slice y_a7 y_n7 y_c7] 69)) w' → w'.cell? ⟨w.heap.size, 0, none⟩ = some (.int .i64 x.1) ∧ w'.cell? ⟨w.heap.size, 1, none⟩ = some (.bool x.2.1) ∧ w'.cell? ⟨w.heap.size, 2, none⟩ = some (.int .i64 x.2.2.1.1.1) ∧ w'.cell? ⟨w.heap.size, 3, none⟩ = some (.int .i64 x.2.2.1.1.2) ∧ w'.cell? ⟨w.heap.size, 4, none⟩ = some (.int .i64 x.2.2.1.2.1) ∧ w'.cell? ⟨w.heap.size, 5, none⟩ = some (.int .i64 x.2.2.1.2.2) ∧ w'.cell? ⟨w.heap.size, 6, none⟩ = some (.slice x_a3 x_n3 x_c3) ∧ w'.cell? ⟨w.heap.size, 7, none⟩ = some (.slice x_a4 x_n4 x_c4) ∧ w'.cell? ⟨w.heap.size, 8, none⟩ = some (.slice x_a5 x_n5 x_c5) ∧ w'.cell? ⟨w.heap.size, 9, none⟩ = some (.slice x_a6 x_n6 x_c6) ∧ w'.cell? ⟨w.heap.size, 10, none⟩ = some (.slice x_a7 x_n7 x_c7) ∧ (∀ j, w'.frozen? ⟨w.heap.size, j, none⟩ = false) ∧ w'.cell? ⟨w.heap.size + 1, 0, none⟩ = some (.int .i64 y.1) ∧ w'.cell? ⟨w.heap.size + 1, 1, none⟩ = some (.bool y.2.1) ∧ w'.cell? ⟨w.heap.size + 1, 2, none⟩ = some (.int .i64 y.2.2.1.1.1) ∧ w'.cell? ⟨w.heap.size + 1, 3, none⟩ = some (.int .i64 y.2.2.1.1.2) ∧ w'.cell? ⟨w.heap.size + 1, 4, none⟩ = some (.int .i64 y.2.2.1.2.1) ∧ w'.cell? ⟨w.heap.size + 1, 5, none⟩ = some (.int .i64 y.2.2.1.2.2) ∧ w'.cell? ⟨w.heap.size + 1, 6, none⟩ = some (.slice y_a3 y_n3 y_c3) ∧ w'.cell? ⟨w.heap.size + 1, 7, none⟩ = some (.slice y_a4 y_n4 y_c4) ∧ w'.cell? ⟨w.heap.size + 1, 8, none⟩ = some (.slice y_a5 y_n5 y_c5) ∧ w'.cell? ⟨w.heap.size + 1, 9, none⟩ = some (.slice y_a6 y_n6 y_c6) ∧ w'.cell? ⟨w.heap.size + 1, 10, none⟩ = some (.slice y_a7 y_n7 y_c7) ∧ (∀ j, w'.frozen? ⟨w.heap.size + 1, j, none⟩ = false) := fun w' h => ⟨box_new (by simp) (More.un h) 0, box_new (by simp) (More.un h) 1, box_new (by simp) (More.un h) 2, box_new (by simp) (More.un h) 3, box_new (by simp) (More.un h) 4, box_new (by simp) (More.un h) 5, box_new (by simp) (More.un h) 6, box_new (by simp) (More.un h) 7, box_new (by simp) (More.un h) 8, box_new (by simp) (More.un h) 9, box_new (by simp) (More.un h) 10, fun j => box_free (by simp) (More.un h) j, box_new (by simp) h 0, box_new (by simp) h 1, box_new (by simp) h 2, box_new (by simp) h 3, box_new (by simp) h 4, box_new (by simp) h 5, box_new (by simp) h 6, box_new (by simp) h 7, box_new (by simp) h 8, box_new (by simp) h 9, box_new (by simp) h 10, fun j => box_free (by simp) h j⟩
    go_enter Try.func93, Try.ntmps93
    go_wp2_with (first | (go_at_call 152; (with_reducible refine (impl_sameAreas _ _ x.2.2.2.1 y.2.2.2.1 _ (Ty.at_more FX3.out mC) (Ty.at_more FY3.out mC) HWX3.out HWY3.out).mono ?_); rintro e w1 ⟨rfl, hb1⟩; have HX : More ((w.alloc (.cells #[.int .i64 x.1, .bool x.2.1, .int .i64 x.2.2.1.1.1, .int .i64 x.2.2.1.1.2, .int .i64 x.2.2.1.2.1, .int .i64 x.2.2.1.2.2, .slice x_a3 x_n3 x_c3, .slice x_a4 x_n4 x_c4, .slice x_a5 x_n5 x_c5, .slice x_a6 x_n6 x_c6, .slice x_a7 x_n7 x_c7] 69)).alloc (.cells #[.int .i64 y.1, .bool y.2.1, .int .i64 y.2.2.1.1.1, .int .i64 y.2.2.1.1.2, .int .i64 y.2.2.1.2.1, .int .i64 y.2.2.1.2.2, .slice y_a3 y_n3 y_c3, .slice y_a4 y_n4 y_c4, .slice y_a5 y_n5 y_c5, .slice y_a6 y_n6 y_c6, .slice y_a7 y_n7 y_c7] 69)) _ := More.trans (by assumption) hb1; have HBw := HB _ HX))
    go_ret
    exact ⟨ret_bool (decide_eq_false (fun e => by have h := A0.out; (unfold frm at e; simp only [Prod.mk.injEq] at e; obtain ⟨q1, q2, q3, q4⟩ := e; first | (rw [q1] at h; simp at h; done) | (rw [q2] at h; simp at h; done) | (rw [q3] at h; simp at h; done) | (rw [q4] at h; simp at h; done)))).symm, mC⟩
  rcases Bool.eq_false_or_eq_true (x.2.1 == y.2.1) with a1 | a1
  rotate_left
  · have A1 := Lib.hid a1
    have HX : More ((w.alloc (.cells #[.int .i64 x.1, .bool x.2.1, .int .i64 x.2.2.1.1.1, .int .i64 x.2.2.1.1.2, .int .i64 x.2.2.1.2.1, .int .i64 x.2.2.1.2.2, .slice x_a3 x_n3 x_c3, .slice x_a4 x_n4 x_c4, .slice x_a5 x_n5 x_c5, .slice x_a6 x_n6 x_c6, .slice x_a7 x_n7 x_c7] 69)).alloc (.cells #[.int .i64 y.1, .bool y.2.1, .int .i64 y.2.2.1.1.1, .int .i64 y.2.2.1.1.2, .int .i64 y.2.2.1.2.1, .int .i64 y.2.2.1.2.2, .slice y_a3 y_n3 y_c3, .slice y_a4 y_n4 y_c4, .slice y_a5 y_n5 y_c5, .slice y_a6 y_n6 y_c6, .slice y_a7 y_n7 y_c7] 69)) ((w.alloc (.cells #[.int .i64 x.1, .bool x.2.1, .int .i64 x.2.2.1.1.1, .int .i64 x.2.2.1.1.2, .int .i64 x.2.2.1.2.1, .int .i64 x.2.2.1.2.2, .slice x_a3 x_n3 x_c3, .slice x_a4 x_n4 x_c4, .slice x_a5 x_n5 x_c5, .slice x_a6 x_n6 x_c6, .slice x_a7 x_n7 x_c7] 69)).alloc (.cells #[.int .i64 y.1, .bool y.2.1, .int .i64 y.2.2.1.1.1, .int .i64 y.2.2.1.1.2, .int .i64 y.2.2.1.2.1, .int .i64 y.2.2.1.2.2, .slice y_a3 y_n3 y_c3, .slice y_a4 y_n4 y_c4, .slice y_a5 y_n5 y_c5, .slice y_a6 y_n6 y_c6, .slice y_a7 y_n7 y_c7] 69)) := More.refl _
    have HB : ∀ w', More ((w.alloc (.cells #[.int .i64 x.1, .bool x.2.1, .int .i64 x.2.2.1.1.1, .int .i64 x.2.2.1.1.2, .int .i64 x.2.2.1.2.1, .int .i64 x.2.2.1.2.2, .slice x_a3 x_n3 x_c3, .slice x_a4 x_n4 x_c4, .slice x_a5 x_n5 x_c5, .slice x_a6 x_n6 x_c6, .slice x_a7 x_n7 x_c7] 69)).alloc (.cells #[.int .i64 y.1, .bool y.2.1, .int .i64 y.2.2.1.1.1, .int .i64 y.2.2.1.1.2, .int .i64 y.2.2.1.2.1, .int .i64 y.2.2.1.2.2, .slice y_a3 y_n3 y_c3, .slice y_a4 y_n4 y_c4, .slice y_a5 y_n5 y_c5, .slice y_a6 y_n6 y_c6, .slice y_a7 y_n7 y_c7] 69)) w' → w'.cell? ⟨w.heap.size, 0, none⟩ = some (.int .i64 x.1) ∧ w'.cell? ⟨w.heap.size, 1, none⟩ = some (.bool x.2.1) ∧ w'.cell? ⟨w.heap.size, 2, none⟩ = some (.int .i64 x.2.2.1.1.1) ∧ w'.cell? ⟨w.heap.size, 3, none⟩ = some (.int .i64 x.2.2.1.1.2) ∧ w'.cell? ⟨w.heap.size, 4, none⟩ = some (.int .i64 x.2.2.1.2.1) ∧ w'.cell? ⟨w.heap.size, 5, none⟩ = some (.int .i64 x.2.2.1.2.2) ∧ w'.cell? ⟨w.heap.size, 6, none⟩ = some (.slice x_a3 x_n3 x_c3) ∧ w'.cell? ⟨w.heap.size, 7, none⟩ = some (.slice x_a4 x_n4 x_c4) ∧ w'.cell? ⟨w.heap.size, 8, none⟩ = some (.slice x_a5 x_n5 x_c5) ∧ w'.cell? ⟨w.heap.size, 9, none⟩ = some (.slice x_a6 x_n6 x_c6) ∧ w'.cell? ⟨w.heap.size, 10, none⟩ = some (.slice x_a7 x_n7 x_c7) ∧ (∀ j, w'.frozen? ⟨w.heap.size, j, none⟩ = false) ∧ w'.cell? ⟨w.heap.size + 1, 0, none⟩ = some (.int .i64 y.1) ∧ w'.cell? ⟨w.heap.size + 1, 1, none⟩ = some (.bool y.2.1) ∧ w'.cell? ⟨w.heap.size + 1, 2, none⟩ = some (.int .i64 y.2.2.1.1.1) ∧ w'.cell? ⟨w.heap.size + 1, 3, none⟩ = some (.int .i64 y.2.2.1.1.2) ∧ w'.cell? ⟨w.heap.size + 1, 4, none⟩ = some (.int .i64 y.2.2.1.2.1) ∧ w'.cell? ⟨w.heap.size + 1, 5, none⟩ = some (.int .i64 y.2.2.1.2.2) ∧ w'.cell? ⟨w.heap.size + 1, 6, none⟩ = some (.slice y_a3 y_n3 y_c3) ∧ w'.cell? ⟨w.heap.size + 1, 7, none⟩ = some (.slice y_a4 y_n4 y_c4) ∧ w'.cell? ⟨w.heap.size + 1, 8, none⟩ = some (.slice y_a5 y_n5 y_c5) ∧ w'.cell? ⟨w.heap.size + 1, 9, none⟩ = some (.slice y_a6 y_n6 y_c6) ∧ w'.cell? ⟨w.heap.size + 1, 10, none⟩ = some (.slice y_a7 y_n7 y_c7) ∧ (∀ j, w'.frozen? ⟨w.heap.size + 1, j, none⟩ = false) := fun w' h => ⟨box_new (by simp) (More.un h) 0, box_new (by simp) (More.un h) 1, box_new (by simp) (More.un h) 2, box_new (by simp) (More.un h) 3, box_new (by simp) (More.un h) 4, box_new (by simp) (More.un h) 5, box_new (by simp) (More.un h) 6, box_new (by simp) (More.un h) 7, box_new (by simp) (More.un h) 8, box_new (by simp) (More.un h) 9, box_new (by simp) (More.un h) 10, fun j => box_free (by simp) (More.un h) j, box_new (by simp) h 0, box_new (by simp) h 1, box_new (by simp) h 2, box_new (by simp) h 3, box_new (by simp) h 4, box_new (by simp) h 5, box_new (by simp) h 6, box_new (by simp) h 7, box_new (by simp) h 8, box_new (by simp) h 9, box_new (by simp) h 10, fun j => box_free (by simp) h j⟩
    go_enter Try.func93, Try.ntmps93
    go_wp2_with (first | (go_at_call 152; (with_reducible refine (impl_sameAreas _ _ x.2.2.2.1 y.2.2.2.1 _ (Ty.at_more FX3.out mC) (Ty.at_more FY3.out mC) HWX3.out HWY3.out).mono ?_); rintro e w1 ⟨rfl, hb1⟩; have HX : More ((w.alloc (.cells #[.int .i64 x.1, .bool x.2.1, .int .i64 x.2.2.1.1.1, .int .i64 x.2.2.1.1.2, .int .i64 x.2.2.1.2.1, .int .i64 x.2.2.1.2.2, .slice x_a3 x_n3 x_c3, .slice x_a4 x_n4 x_c4, .slice x_a5 x_n5 x_c5, .slice x_a6 x_n6 x_c6, .slice x_a7 x_n7 x_c7] 69)).alloc (.cells #[.int .i64 y.1, .bool y.2.1, .int .i64 y.2.2.1.1.1, .int .i64 y.2.2.1.1.2, .int .i64 y.2.2.1.2.1, .int .i64 y.2.2.1.2.2, .slice y_a3 y_n3 y_c3, .slice y_a4 y_n4 y_c4, .slice y_a5 y_n5 y_c5, .slice y_a6 y_n6 y_c6, .slice y_a7 y_n7 y_c7] 69)) _ := More.trans (by assumption) hb1; have HBw := HB _ HX))
    go_ret
    exact ⟨ret_bool (decide_eq_false (fun e => by have h := A1.out; (unfold frm at e; simp only [Prod.mk.injEq] at e; obtain ⟨q1, q2, q3, q4⟩ := e; first | (rw [q1] at h; simp at h; done) | (rw [q2] at h; simp at h; done) | (rw [q3] at h; simp at h; done) | (rw [q4] at h; simp at h; done)))).symm, mC⟩
  rcases Bool.eq_false_or_eq_true (x.2.2.1.1.1 == y.2.2.1.1.1) with a2 | a2
  rotate_left
  · have A2 := Lib.hid a2
    have HX : More ((w.alloc (.cells #[.int .i64 x.1, .bool x.2.1, .int .i64 x.2.2.1.1.1, .int .i64 x.2.2.1.1.2, .int .i64 x.2.2.1.2.1, .int .i64 x.2.2.1.2.2, .slice x_a3 x_n3 x_c3, .slice x_a4 x_n4 x_c4, .slice x_a5 x_n5 x_c5, .slice x_a6 x_n6 x_c6, .slice x_a7 x_n7 x_c7] 69)).alloc (.cells #[.int .i64 y.1, .bool y.2.1, .int .i64 y.2.2.1.1.1, .int .i64 y.2.2.1.1.2, .int .i64 y.2.2.1.2.1, .int .i64 y.2.2.1.2.2, .slice y_a3 y_n3 y_c3, .slice y_a4 y_n4 y_c4, .slice y_a5 y_n5 y_c5, .slice y_a6 y_n6 y_c6, .slice y_a7 y_n7 y_c7] 69)) ((w.alloc (.cells #[.int .i64 x.1, .bool x.2.1, .int .i64 x.2.2.1.1.1, .int .i64 x.2.2.1.1.2, .int .i64 x.2.2.1.2.1, .int .i64 x.2.2.1.2.2, .slice x_a3 x_n3 x_c3, .slice x_a4 x_n4 x_c4, .slice x_a5 x_n5 x_c5, .slice x_a6 x_n6 x_c6, .slice x_a7 x_n7 x_c7] 69)).alloc (.cells #[.int .i64 y.1, .bool y.2.1, .int .i64 y.2.2.1.1.1, .int .i64 y.2.2.1.1.2, .int .i64 y.2.2.1.2.1, .int .i64 y.2.2.1.2.2, .slice y_a3 y_n3 y_c3, .slice y_a4 y_n4 y_c4, .slice y_a5 y_n5 y_c5, .slice y_a6 y_n6 y_c6, .slice y_a7 y_n7 y_c7] 69)) := More.refl _
    have HB : ∀ w', More ((w.alloc (.cells #[.int .i64 x.1, .bool x.2.1, .int .i64 x.2.2.1.1.1, .int .i64 x.2.2.1.1.2, .int .i64 x.2.2.1.2.1, .int .i64 x.2.2.1.2.2, .slice x_a3 x_n3 x_c3, .slice x_a4 x_n4 x_c4, .slice x_a5 x_n5 x_c5, .slice x_a6 x_n6 x_c6, .slice x_a7 x_n7 x_c7] 69)).alloc (.cells #[.int .i64 y.1, .bool y.2.1, .int .i64 y.2.2.1.1.1, .int .i64 y.2.2.1.1.2, .int .i64 y.2.2.1.2.1, .int .i64 y.2.2.1.2.2, .slice y_a3 y_n3 y_c3, .slice y_a4 y_n4 y_c4, .slice y_a5 y_n5 y_c5, .slice y_a6 y_n6 y_c6, .slice y_a7 y_n7 y_c7] 69)) w' → w'.cell? ⟨w.heap.size, 0, none⟩ = some (.int .i64 x.1) ∧ w'.cell? ⟨w.heap.size, 1, none⟩ = some (.bool x.2.1) ∧ w'.cell? ⟨w.heap.size, 2, none⟩ = some (.int .i64 x.2.2.1.1.1) ∧ w'.cell? ⟨w.heap.size, 3, none⟩ = some (.int .i64 x.2.2.1.1.2) ∧ w'.cell? ⟨w.heap.size, 4, none⟩ = some (.int .i64 x.2.2.1.2.1) ∧ w'.cell? ⟨w.heap.size, 5, none⟩ = some (.int .i64 x.2.2.1.2.2) ∧ w'.cell? ⟨w.heap.size, 6, none⟩ = some (.slice x_a3 x_n3 x_c3) ∧ w'.cell? ⟨w.heap.size, 7, none⟩ = some (.slice x_a4 x_n4 x_c4) ∧ w'.cell? ⟨w.heap.size, 8, none⟩ = some (.slice x_a5 x_n5 x_c5) ∧ w'.cell? ⟨w.heap.size, 9, none⟩ = some (.slice x_a6 x_n6 x_c6) ∧ w'.cell? ⟨w.heap.size, 10, none⟩ = some (.slice x_a7 x_n7 x_c7) ∧ (∀ j, w'.frozen? ⟨w.heap.size, j, none⟩ = false) ∧ w'.cell? ⟨w.heap.size + 1, 0, none⟩ = some (.int .i64 y.1) ∧ w'.cell? ⟨w.heap.size + 1, 1, none⟩ = some (.bool y.2.1) ∧ w'.cell? ⟨w.heap.size + 1, 2, none⟩ = some (.int .i64 y.2.2.1.1.1) ∧ w'.cell? ⟨w.heap.size + 1, 3, none⟩ = some (.int .i64 y.2.2.1.1.2) ∧ w'.cell? ⟨w.heap.size + 1, 4, none⟩ = some (.int .i64 y.2.2.1.2.1) ∧ w'.cell? ⟨w.heap.size + 1, 5, none⟩ = some (.int .i64 y.2.2.1.2.2) ∧ w'.cell? ⟨w.heap.size + 1, 6, none⟩ = some (.slice y_a3 y_n3 y_c3) ∧ w'.cell? ⟨w.heap.size + 1, 7, none⟩ = some (.slice y_a4 y_n4 y_c4) ∧ w'.cell? ⟨w.heap.size + 1, 8, none⟩ = some (.slice y_a5 y_n5 y_c5) ∧ w'.cell? ⟨w.heap.size + 1, 9, none⟩ = some (.slice y_a6 y_n6 y_c6) ∧ w'.cell? ⟨w.heap.size + 1, 10, none⟩ = some (.slice y_a7 y_n7 y_c7) ∧ (∀ j, w'.frozen? ⟨w.heap.size + 1, j, none⟩ = false) := fun w' h => ⟨box_new (by simp) (More.un h) 0, box_new (by simp) (More.un h) 1, box_new (by simp) (More.un h) 2, box_new (by simp) (More.un h) 3, box_new (by simp) (More.un h) 4, box_new (by simp) (More.un h) 5, box_new (by simp) (More.un h) 6, box_new (by simp) (More.un h) 7, box_new (by simp) (More.un h) 8, box_new (by simp) (More.un h) 9, box_new (by simp) (More.un h) 10, fun j => box_free (by simp) (More.un h) j, box_new (by simp) h 0, box_new (by simp) h 1, box_new (by simp) h 2, box_new (by simp) h 3, box_new (by simp) h 4, box_new (by simp) h 5, box_new (by simp) h 6, box_new (by simp) h 7, box_new (by simp) h 8, box_new (by simp) h 9, box_new (by simp) h 10, fun j => box_free (by simp) h j⟩
    go_enter Try.func93, Try.ntmps93
    go_wp2_with (first | (go_at_call 152; (with_reducible refine (impl_sameAreas _ _ x.2.2.2.1 y.2.2.2.1 _ (Ty.at_more FX3.out mC) (Ty.at_more FY3.out mC) HWX3.out HWY3.out).mono ?_); rintro e w1 ⟨rfl, hb1⟩; have HX : More ((w.alloc (.cells #[.int .i64 x.1, .bool x.2.1, .int .i64 x.2.2.1.1.1, .int .i64 x.2.2.1.1.2, .int .i64 x.2.2.1.2.1, .int .i64 x.2.2.1.2.2, .slice x_a3 x_n3 x_c3, .slice x_a4 x_n4 x_c4, .slice x_a5 x_n5 x_c5, .slice x_a6 x_n6 x_c6, .slice x_a7 x_n7 x_c7] 69)).alloc (.cells #[.int .i64 y.1, .bool y.2.1, .int .i64 y.2.2.1.1.1, .int .i64 y.2.2.1.1.2, .int .i64 y.2.2.1.2.1, .int .i64 y.2.2.1.2.2, .slice y_a3 y_n3 y_c3, .slice y_a4 y_n4 y_c4, .slice y_a5 y_n5 y_c5, .slice y_a6 y_n6 y_c6, .slice y_a7 y_n7 y_c7] 69)) _ := More.trans (by assumption) hb1; have HBw := HB _ HX))
    go_ret
    exact ⟨ret_bool (decide_eq_false (fun e => by have h := A2.out; (unfold frm at e; simp only [Prod.mk.injEq] at e; obtain ⟨q1, q2, q3, q4⟩ := e; first | (rw [q1] at h; simp at h; done) | (rw [q2] at h; simp at h; done) | (rw [q3] at h; simp at h; done) | (rw [q4] at h; simp at h; done)))).symm, mC⟩
  rcases Bool.eq_false_or_eq_true (x.2.2.1.1.2 == y.2.2.1.1.2) with a3 | a3
  rotate_left
  · have A3 := Lib.hid a3
    have HX : More ((w.alloc (.cells #[.int .i64 x.1, .bool x.2.1, .int .i64 x.2.2.1.1.1, .int .i64 x.2.2.1.1.2, .int .i64 x.2.2.1.2.1, .int .i64 x.2.2.1.2.2, .slice x_a3 x_n3 x_c3, .slice x_a4 x_n4 x_c4, .slice x_a5 x_n5 x_c5, .slice x_a6 x_n6 x_c6, .slice x_a7 x_n7 x_c7] 69)).alloc (.cells #[.int .i64 y.1, .bool y.2.1, .int .i64 y.2.2.1.1.1, .int .i64 y.2.2.1.1.2, .int .i64 y.2.2.1.2.1, .int .i64 y.2.2.1.2.2, .slice y_a3 y_n3 y_c3, .slice y_a4 y_n4 y_c4, .slice y_a5 y_n5 y_c5, .slice y_a6 y_n6 y_c6, .slice y_a7 y_n7 y_c7] 69)) ((w.alloc (.cells #[.int .i64 x.1, .bool x.2.1, .int .i64 x.2.2.1.1.1, .int .i64 x.2.2.1.1.2, .int .i64 x.2.2.1.2.1, .int .i64 x.2.2.1.2.2, .slice x_a3 x_n3 x_c3, .slice x_a4 x_n4 x_c4, .slice x_a5 x_n5 x_c5, .slice x_a6 x_n6 x_c6, .slice x_a7 x_n7 x_c7] 69)).alloc (.cells #[.int .i64 y.1, .bool y.2.1, .int .i64 y.2.2.1.1.1, .int .i64 y.2.2.1.1.2, .int .i64 y.2.2.1.2.1, .int .i64 y.2.2.1.2.2, .slice y_a3 y_n3 y_c3, .slice y_a4 y_n4 y_c4, .slice y_a5 y_n5 y_c5, .slice y_a6 y_n6 y_c6, .slice y_a7 y_n7 y_c7] 69)) := More.refl _
    have HB : ∀ w', More ((w.alloc (.cells #[.int .i64 x.1, .bool x.2.1, .int .i64 x.2.2.1.1.1, .int .i64 x.2.2.1.1.2, .int .i64 x.2.2.1.2.1, .int .i64 x.2.2.1.2.2, .slice x_a3 x_n3 x_c3, .slice x_a4 x_n4 x_c4, .slice x_a5 x_n5 x_c5, .slice x_a6 x_n6 x_c6, .slice x_a7 x_n7 x_c7] 69)).alloc (.cells #[.int .i64 y.1, .bool y.2.1, .int .i64 y.2.2.1.1.1, .int .i64 y.2.2.1.1.2, .int .i64 y.2.2.1.2.1, .int .i64 y.2.2.1.2.2, .slice y_a3 y_n3 y_c3, .slice y_a4 y_n4 y_c4, .slice y_a5 y_n5 y_c5, .slice y_a6 y_n6 y_c6, .slice y_a7 y_n7 y_c7] 69)) w' → w'.cell? ⟨w.heap.size, 0, none⟩ = some (.int .i64 x.1) ∧ w'.cell? ⟨w.heap.size, 1, none⟩ = some (.bool x.2.1) ∧ w'.cell? ⟨w.heap.size, 2, none⟩ = some (.int .i64 x.2.2.1.1.1) ∧ w'.cell? ⟨w.heap.size, 3, none⟩ = some (.int .i64 x.2.2.1.1.2) ∧ w'.cell? ⟨w.heap.size, 4, none⟩ = some (.int .i64 x.2.2.1.2.1) ∧ w'.cell? ⟨w.heap.size, 5, none⟩ = some (.int .i64 x.2.2.1.2.2) ∧ w'.cell? ⟨w.heap.size, 6, none⟩ = some (.slice x_a3 x_n3 x_c3) ∧ w'.cell? ⟨w.heap.size, 7, none⟩ = some (.slice x_a4 x_n4 x_c4) ∧ w'.cell? ⟨w.heap.size, 8, none⟩ = some (.slice x_a5 x_n5 x_c5) ∧ w'.cell? ⟨w.heap.size, 9, none⟩ = some (.slice x_a6 x_n6 x_c6) ∧ w'.cell? ⟨w.heap.size, 10, none⟩ = some (.slice x_a7 x_n7 x_c7) ∧ (∀ j, w'.frozen? ⟨w.heap.size, j, none⟩ = false) ∧ w'.cell? ⟨w.heap.size + 1, 0, none⟩ = some (.int .i64 y.1) ∧ w'.cell? ⟨w.heap.size + 1, 1, none⟩ = some (.bool y.2.1) ∧ w'.cell? ⟨w.heap.size + 1, 2, none⟩ = some (.int .i64 y.2.2.1.1.1) ∧ w'.cell? ⟨w.heap.size + 1, 3, none⟩ = some (.int .i64 y.2.2.1.1.2) ∧ w'.cell? ⟨w.heap.size + 1, 4, none⟩ = some (.int .i64 y.2.2.1.2.1) ∧ w'.cell? ⟨w.heap.size + 1, 5, none⟩ = some (.int .i64 y.2.2.1.2.2) ∧ w'.cell? ⟨w.heap.size + 1, 6, none⟩ = some (.slice y_a3 y_n3 y_c3) ∧ w'.cell? ⟨w.heap.size + 1, 7, none⟩ = some (.slice y_a4 y_n4 y_c4) ∧ w'.cell? ⟨w.heap.size + 1, 8, none⟩ = some (.slice y_a5 y_n5 y_c5) ∧ w'.cell? ⟨w.heap.size + 1, 9, none⟩ = some (.slice y_a6 y_n6 y_c6) ∧ w'.cell? ⟨w.heap.size + 1, 10, none⟩ = some (.slice y_a7 y_n7 y_c7) ∧ (∀ j, w'.frozen? ⟨w.heap.size + 1, j, none⟩ = false) := fun w' h => ⟨box_new (by simp) (More.un h) 0, box_new (by simp) (More.un h) 1, box_new (by simp) (More.un h) 2, box_new (by simp) (More.un h) 3, box_new (by simp) (More.un h) 4, box_new (by simp) (More.un h) 5, box_new (by simp) (More.un h) 6, box_new (by simp) (More.un h) 7, box_new (by simp) (More.un h) 8, box_new (by simp) (More.un h) 9, box_new (by simp) (More.un h) 10, fun j => box_free (by simp) (More.un h) j, box_new (by simp) h 0, box_new (by simp) h 1, box_new (by simp) h 2, box_new (by simp) h 3, box_new (by simp) h 4, box_new (by simp) h 5, box_new (by simp) h 6, box_new (by simp) h 7, box_new (by simp) h 8, box_new (by simp) h 9, box_new (by simp) h 10, fun j => box_free (by simp) h j⟩
    go_enter Try.func93, Try.ntmps93
    go_wp2_with (first | (go_at_call 152; (with_reducible refine (impl_sameAreas _ _ x.2.2.2.1 y.2.2.2.1 _ (Ty.at_more FX3.out mC) (Ty.at_more FY3.out mC) HWX3.out HWY3.out).mono ?_); rintro e w1 ⟨rfl, hb1⟩; have HX : More ((w.alloc (.cells #[.int .i64 x.1, .bool x.2.1, .int .i64 x.2.2.1.1.1, .int .i64 x.2.2.1.1.2, .int .i64 x.2.2.1.2.1, .int .i64 x.2.2.1.2.2, .slice x_a3 x_n3 x_c3, .slice x_a4 x_n4 x_c4, .slice x_a5 x_n5 x_c5, .slice x_a6 x_n6 x_c6, .slice x_a7 x_n7 x_c7] 69)).alloc (.cells #[.int .i64 y.1, .bool y.2.1, .int .i64 y.2.2.1.1.1, .int .i64 y.2.2.1.1.2, .int .i64 y.2.2.1.2.1, .int .i64 y.2.2.1.2.2, .slice y_a3 y_n3 y_c3, .slice y_a4 y_n4 y_c4, .slice y_a5 y_n5 y_c5, .slice y_a6 y_n6 y_c6, .slice y_a7 y_n7 y_c7] 69)) _ := More.trans (by assumption) hb1; have HBw := HB _ HX))
    go_ret
    exact ⟨ret_bool (decide_eq_false (fun e => by have h := A3.out; (unfold frm at e; simp only [Prod.mk.injEq] at e; obtain ⟨q1, q2, q3, q4⟩ := e; first | (rw [q1] at h; simp at h; done) | (rw [q2] at h; simp at h; done) | (rw [q3] at h; simp at h; done) | (rw [q4] at h; simp at h; done)))).symm, mC⟩
  rcases Bool.eq_false_or_eq_true (x.2.2.1.2.1 == y.2.2.1.2.1) with a4 | a4
  rotate_left
  · have A4 := Lib.hid a4
    have HX : More ((w.alloc (.cells #[.int .i64 x.1, .bool x.2.1, .int .i64 x.2.2.1.1.1, .int .i64 x.2.2.1.1.2, .int .i64 x.2.2.1.2.1, .int .i64 x.2.2.1.2.2, .slice x_a3 x_n3 x_c3, .slice x_a4 x_n4 x_c4, .slice x_a5 x_n5 x_c5, .slice x_a6 x_n6 x_c6, .slice x_a7 x_n7 x_c7] 69)).alloc (.cells #[.int .i64 y.1, .bool y.2.1, .int .i64 y.2.2.1.1.1, .int .i64 y.2.2.1.1.2, .int .i64 y.2.2.1.2.1, .int .i64 y.2.2.1.2.2, .slice y_a3 y_n3 y_c3, .slice y_a4 y_n4 y_c4, .slice y_a5 y_n5 y_c5, .slice y_a6 y_n6 y_c6, .slice y_a7 y_n7 y_c7] 69)) ((w.alloc (.cells #[.int .i64 x.1, .bool x.2.1, .int .i64 x.2.2.1.1.1, .int .i64 x.2.2.1.1.2, .int .i64 x.2.2.1.2.1, .int .i64 x.2.2.1.2.2, .slice x_a3 x_n3 x_c3, .slice x_a4 x_n4 x_c4, .slice x_a5 x_n5 x_c5, .slice x_a6 x_n6 x_c6, .slice x_a7 x_n7 x_c7] 69)).alloc (.cells #[.int .i64 y.1, .bool y.2.1, .int .i64 y.2.2.1.1.1, .int .i64 y.2.2.1.1.2, .int .i64 y.2.2.1.2.1, .int .i64 y.2.2.1.2.2, .slice y_a3 y_n3 y_c3, .slice y_a4 y_n4 y_c4, .slice y_a5 y_n5 y_c5, .slice y_a6 y_n6 y_c6, .slice y_a7 y_n7 y_c7] 69)) := More.refl _
    have HB : ∀ w', More ((w.alloc (.cells #[.int .i64 x.1, .bool x.2.1, .int .i64 x.2.2.1.1.1, .int .i64 x.2.2.1.1.2, .int .i64 x.2.2.1.2.1, .int .i64 x.2.2.1.2.2, .slice x_a3 x_n3 x_c3, .slice x_a4 x_n4 x_c4, .slice x_a5 x_n5 x_c5, .slice x_a6 x_n6 x_c6, .slice x_a7 x_n7 x_c7] 69)).alloc (.cells #[.int .i64 y.1, .bool y.2.1, .int .i64 y.2.2.1.1.1, .int .i64 y.2.2.1.1.2, .int .i64 y.2.2.1.2.1, .int .i64 y.2.2.1.2.2, .slice y_a3 y_n3 y_c3, .slice y_a4 y_n4 y_c4, .slice y_a5 y_n5 y_c5, .slice y_a6 y_n6 y_c6, .slice y_a7 y_n7 y_c7] 69)) w' → w'.cell? ⟨w.heap.size, 0, none⟩ = some (.int .i64 x.1) ∧ w'.cell? ⟨w.heap.size, 1, none⟩ = some (.bool x.2.1) ∧ w'.cell? ⟨w.heap.size, 2, none⟩ = some (.int .i64 x.2.2.1.1.1) ∧ w'.cell? ⟨w.heap.size, 3, none⟩ = some (.int .i64 x.2.2.1.1.2) ∧ w'.cell? ⟨w.heap.size, 4, none⟩ = some (.int .i64 x.2.2.1.2.1) ∧ w'.cell? ⟨w.heap.size, 5, none⟩ = some (.int .i64 x.2.2.1.2.2) ∧ w'.cell? ⟨w.heap.size, 6, none⟩ = some (.slice x_a3 x_n3 x_c3) ∧ w'.cell? ⟨w.heap.size, 7, none⟩ = some (.slice x_a4 x_n4 x_c4) ∧ w'.cell? ⟨w.heap.size, 8, none⟩ = some (.slice x_a5 x_n5 x_c5) ∧ w'.cell? ⟨w.heap.size, 9, none⟩ = some (.slice x_a6 x_n6 x_c6) ∧ w'.cell? ⟨w.heap.size, 10, none⟩ = some (.slice x_a7 x_n7 x_c7) ∧ (∀ j, w'.frozen? ⟨w.heap.size, j, none⟩ = false) ∧ w'.cell? ⟨w.heap.size + 1, 0, none⟩ = some (.int .i64 y.1) ∧ w'.cell? ⟨w.heap.size + 1, 1, none⟩ = some (.bool y.2.1) ∧ w'.cell? ⟨w.heap.size + 1, 2, none⟩ = some (.int .i64 y.2.2.1.1.1) ∧ w'.cell? ⟨w.heap.size + 1, 3, none⟩ = some (.int .i64 y.2.2.1.1.2) ∧ w'.cell? ⟨w.heap.size + 1, 4, none⟩ = some (.int .i64 y.2.2.1.2.1) ∧ w'.cell? ⟨w.heap.size + 1, 5, none⟩ = some (.int .i64 y.2.2.1.2.2) ∧ w'.cell? ⟨w.heap.size + 1, 6, none⟩ = some (.slice y_a3 y_n3 y_c3) ∧ w'.cell? ⟨w.heap.size + 1, 7, none⟩ = some (.slice y_a4 y_n4 y_c4) ∧ w'.cell? ⟨w.heap.size + 1, 8, none⟩ = some (.slice y_a5 y_n5 y_c5) ∧ w'.cell? ⟨w.heap.size + 1, 9, none⟩ = some (.slice y_a6 y_n6 y_c6) ∧ w'.cell? ⟨w.heap.size + 1, 10, none⟩ = some (.slice y_a7 y_n7 y_c7) ∧ (∀ j, w'.frozen? ⟨w.heap.size + 1, j, none⟩ = false) := fun w' h => ⟨box_new (by simp) (More.un h) 0, box_new (by simp) (More.un h) 1, box_new (by simp) (More.un h) 2, box_new (by simp) (More.un h) 3, box_new (by simp) (More.un h) 4, box_new (by simp) (More.un h) 5, box_new (by simp) (More.un h) 6, box_new (by simp) (More.un h) 7, box_new (by simp) (More.un h) 8, box_new (by simp) (More.un h) 9, box_new (by simp) (More.un h) 10, fun j => box_free (by simp) (More.un h) j, box_new (by simp) h 0, box_new (by simp) h 1, box_new (by simp) h 2, box_new (by simp) h 3, box_new (by simp) h 4, box_new (by simp) h 5, box_new (by simp) h 6, box_new (by simp) h 7, box_new (by simp) h 8, box_new (by simp) h 9, box_new (by simp) h 10, fun j => box_free (by simp) h j⟩
    go_enter Try.func93, Try.ntmps93
    go_wp2_with (first | (go_at_call 152; (with_reducible refine (impl_sameAreas _ _ x.2.2.2.1 y.2.2.2.1 _ (Ty.at_more FX3.out mC) (Ty.at_more FY3.out mC) HWX3.out HWY3.out).mono ?_); rintro e w1 ⟨rfl, hb1⟩; have HX : More ((w.alloc (.cells #[.int .i64 x.1, .bool x.2.1, .int .i64 x.2.2.1.1.1, .int .i64 x.2.2.1.1.2, .int .i64 x.2.2.1.2.1, .int .i64 x.2.2.1.2.2, .slice x_a3 x_n3 x_c3, .slice x_a4 x_n4 x_c4, .slice x_a5 x_n5 x_c5, .slice x_a6 x_n6 x_c6, .slice x_a7 x_n7 x_c7] 69)).alloc (.cells #[.int .i64 y.1, .bool y.2.1, .int .i64 y.2.2.1.1.1, .int .i64 y.2.2.1.1.2, .int .i64 y.2.2.1.2.1, .int .i64 y.2.2.1.2.2, .slice y_a3 y_n3 y_c3, .slice y_a4 y_n4 y_c4, .slice y_a5 y_n5 y_c5, .slice y_a6 y_n6 y_c6, .slice y_a7 y_n7 y_c7] 69)) _ := More.trans (by assumption) hb1; have HBw := HB _ HX))
    go_ret
    exact ⟨ret_bool (decide_eq_false (fun e => by have h := A4.out; (unfold frm at e; simp only [Prod.mk.injEq] at e; obtain ⟨q1, q2, q3, q4⟩ := e; first | (rw [q1] at h; simp at h; done) | (rw [q2] at h; simp at h; done) | (rw [q3] at h; simp at h; done) | (rw [q4] at h; simp at h; done)))).symm, mC⟩
  rcases Bool.eq_false_or_eq_true (x.2.2.1.2.2 == y.2.2.1.2.2) with a5 | a5
  rotate_left
  · have A5 := Lib.hid a5
    have HX : More ((w.alloc (.cells #[.int .i64 x.1, .bool x.2.1, .int .i64 x.2.2.1.1.1, .int .i64 x.2.2.1.1.2, .int .i64 x.2.2.1.2.1, .int .i64 x.2.2.1.2.2, .slice x_a3 x_n3 x_c3, .slice x_a4 x_n4 x_c4, .slice x_a5 x_n5 x_c5, .slice x_a6 x_n6 x_c6, .slice x_a7 x_n7 x_c7] 69)).alloc (.cells #[.int .i64 y.1, .bool y.2.1, .int .i64 y.2.2.1.1.1, .int .i64 y.2.2.1.1.2, .int .i64 y.2.2.1.2.1, .int .i64 y.2.2.1.2.2, .slice y_a3 y_n3 y_c3, .slice y_a4 y_n4 y_c4, .slice y_a5 y_n5 y_c5, .slice y_a6 y_n6 y_c6, .slice y_a7 y_n7 y_c7] 69)) ((w.alloc (.cells #[.int .i64 x.1, .bool x.2.1, .int .i64 x.2.2.1.1.1, .int .i64 x.2.2.1.1.2, .int .i64 x.2.2.1.2.1, .int .i64 x.2.2.1.2.2, .slice x_a3 x_n3 x_c3, .slice x_a4 x_n4 x_c4, .slice x_a5 x_n5 x_c5, .slice x_a6 x_n6 x_c6, .slice x_a7 x_n7 x_c7] 69)).alloc (.cells #[.int .i64 y.1, .bool y.2.1, .int .i64 y.2.2.1.1.1, .int .i64 y.2.2.1.1.2, .int .i64 y.2.2.1.2.1, .int .i64 y.2.2.1.2.2, .slice y_a3 y_n3 y_c3, .slice y_a4 y_n4 y_c4, .slice y_a5 y_n5 y_c5, .slice y_a6 y_n6 y_c6, .slice y_a7 y_n7 y_c7] 69)) := More.refl _
    have HB : ∀ w', More ((w.alloc (.cells #[.int .i64 x.1, .bool x.2.1, .int .i64 x.2.2.1.1.1, .int .i64 x.2.2.1.1.2, .int .i64 x.2.2.1.2.1, .int .i64 x.2.2.1.2.2, .slice x_a3 x_n3 x_c3, .slice x_a4 x_n4 x_c4, .slice x_a5 x_n5 x_c5, .slice x_a6 x_n6 x_c6, .slice x_a7 x_n7 x_c7] 69)).alloc (.cells #[.int .i64 y.1, .bool y.2.1, .int .i64 y.2.2.1.1.1, .int .i64 y.2.2.1.1.2, .int .i64 y.2.2.1.2.1, .int .i64 y.2.2.1.2.2, .slice y_a3 y_n3 y_c3, .slice y_a4 y_n4 y_c4, .slice y_a5 y_n5 y_c5, .slice y_a6 y_n6 y_c6, .slice y_a7 y_n7 y_c7] 69)) w' → w'.cell? ⟨w.heap.size, 0, none⟩ = some (.int .i64 x.1) ∧ w'.cell? ⟨w.heap.size, 1, none⟩ = some (.bool x.2.1) ∧ w'.cell? ⟨w.heap.size, 2, none⟩ = some (.int .i64 x.2.2.1.1.1) ∧ w'.cell? ⟨w.heap.size, 3, none⟩ = some (.int .i64 x.2.2.1.1.2) ∧ w'.cell? ⟨w.heap.size, 4, none⟩ = some (.int .i64 x.2.2.1.2.1) ∧ w'.cell? ⟨w.heap.size, 5, none⟩ = some (.int .i64 x.2.2.1.2.2) ∧ w'.cell? ⟨w.heap.size, 6, none⟩ = some (.slice x_a3 x_n3 x_c3) ∧ w'.cell? ⟨w.heap.size, 7, none⟩ = some (.slice x_a4 x_n4 x_c4) ∧ w'.cell? ⟨w.heap.size, 8, none⟩ = some (.slice x_a5 x_n5 x_c5) ∧ w'.cell? ⟨w.heap.size, 9, none⟩ = some (.slice x_a6 x_n6 x_c6) ∧ w'.cell? ⟨w.heap.size, 10, none⟩ = some (.slice x_a7 x_n7 x_c7) ∧ (∀ j, w'.frozen? ⟨w.heap.size, j, none⟩ = false) ∧ w'.cell? ⟨w.heap.size + 1, 0, none⟩ = some (.int .i64 y.1) ∧ w'.cell? ⟨w.heap.size + 1, 1, none⟩ = some (.bool y.2.1) ∧ w'.cell? ⟨w.heap.size + 1, 2, none⟩ = some (.int .i64 y.2.2.1.1.1) ∧ w'.cell? ⟨w.heap.size + 1, 3, none⟩ = some (.int .i64 y.2.2.1.1.2) ∧ w'.cell? ⟨w.heap.size + 1, 4, none⟩ = some (.int .i64 y.2.2.1.2.1) ∧ w'.cell? ⟨w.heap.size + 1, 5, none⟩ = some (.int .i64 y.2.2.1.2.2) ∧ w'.cell? ⟨w.heap.size + 1, 6, none⟩ = some (.slice y_a3 y_n3 y_c3) ∧ w'.cell? ⟨w.heap.size + 1, 7, none⟩ = some (.slice y_a4 y_n4 y_c4) ∧ w'.cell? ⟨w.heap.size + 1, 8, none⟩ = some (.slice y_a5 y_n5 y_c5) ∧ w'.cell? ⟨w.heap.size + 1, 9, none⟩ = some (.slice y_a6 y_n6 y_c6) ∧ w'.cell? ⟨w.heap.size + 1, 10, none⟩ = some (.slice y_a7 y_n7 y_c7) ∧ (∀ j, w'.frozen? ⟨w.heap.size + 1, j, none⟩ = false) := fun w' h => ⟨box_new (by simp) (More.un h) 0, box_new (by simp) (More.un h) 1, box_new (by simp) (More.un h) 2, box_new (by simp) (More.un h) 3, box_new (by simp) (More.un h) 4, box_new (by simp) (More.un h) 5, box_new (by simp) (More.un h) 6, box_new (by simp) (More.un h) 7, box_new (by simp) (More.un h) 8, box_new (by simp) (More.un h) 9, box_new (by simp) (More.un h) 10, fun j => box_free (by simp) (More.un h) j, box_new (by simp) h 0, box_new (by simp) h 1, box_new (by simp) h 2, box_new (by simp) h 3, box_new (by simp) h 4, box_new (by simp) h 5, box_new (by simp) h 6, box_new (by simp) h 7, box_new (by simp) h 8, box_new (by simp) h 9, box_new (by simp) h 10, fun j => box_free (by simp) h j⟩
    go_enter Try.func93, Try.ntmps93
    go_wp2_with (first | (go_at_call 152; (with_reducible refine (impl_sameAreas _ _ x.2.2.2.1 y.2.2.2.1 _ (Ty.at_more FX3.out mC) (Ty.at_more FY3.out mC) HWX3.out HWY3.out).mono ?_); rintro e w1 ⟨rfl, hb1⟩; have HX : More ((w.alloc (.cells #[.int .i64 x.1, .bool x.2.1, .int .i64 x.2.2.1.1.1, .int .i64 x.2.2.1.1.2, .int .i64 x.2.2.1.2.1, .int .i64 x.2.2.1.2.2, .slice x_a3 x_n3 x_c3, .slice x_a4 x_n4 x_c4, .slice x_a5 x_n5 x_c5, .slice x_a6 x_n6 x_c6, .slice x_a7 x_n7 x_c7] 69)).alloc (.cells #[.int .i64 y.1, .bool y.2.1, .int .i64 y.2.2.1.1.1, .int .i64 y.2.2.1.1.2, .int .i64 y.2.2.1.2.1, .int .i64 y.2.2.1.2.2, .slice y_a3 y_n3 y_c3, .slice y_a4 y_n4 y_c4, .slice y_a5 y_n5 y_c5, .slice y_a6 y_n6 y_c6, .slice y_a7 y_n7 y_c7] 69)) _ := More.trans (by assumption) hb1; have HBw := HB _ HX))
    go_ret
    exact ⟨ret_bool (decide_eq_false (fun e => by have h := A5.out; (unfold frm at e; simp only [Prod.mk.injEq] at e; obtain ⟨q1, q2, q3, q4⟩ := e; first | (rw [q1] at h; simp at h; done) | (rw [q2] at h; simp at h; done) | (rw [q3] at h; simp at h; done) | (rw [q4] at h; simp at h; done)))).symm, mC⟩
  rcases Bool.eq_false_or_eq_true (decide (x.2.2.2.1 = y.2.2.2.1)) with a6 | a6
  rotate_left
  · have A6 := Lib.hid a6
    have HX : More ((w.alloc (.cells #[.int .i64 x.1, .bool x.2.1, .int .i64 x.2.2.1.1.1, .int .i64 x.2.2.1.1.2, .int .i64 x.2.2.1.2.1, .int .i64 x.2.2.1.2.2, .slice x_a3 x_n3 x_c3, .slice x_a4 x_n4 x_c4, .slice x_a5 x_n5 x_c5, .slice x_a6 x_n6 x_c6, .slice x_a7 x_n7 x_c7] 69)).alloc (.cells #[.int .i64 y.1, .bool y.2.1, .int .i64 y.2.2.1.1.1, .int .i64 y.2.2.1.1.2, .int .i64 y.2.2.1.2.1, .int .i64 y.2.2.1.2.2, .slice y_a3 y_n3 y_c3, .slice y_a4 y_n4 y_c4, .slice y_a5 y_n5 y_c5, .slice y_a6 y_n6 y_c6, .slice y_a7 y_n7 y_c7] 69)) ((w.alloc (.cells #[.int .i64 x.1, .bool x.2.1, .int .i64 x.2.2.1.1.1, .int .i64 x.2.2.1.1.2, .int .i64 x.2.2.1.2.1, .int .i64 x.2.2.1.2.2, .slice x_a3 x_n3 x_c3, .slice x_a4 x_n4 x_c4, .slice x_a5 x_n5 x_c5, .slice x_a6 x_n6 x_c6, .slice x_a7 x_n7 x_c7] 69)).alloc (.cells #[.int .i64 y.1, .bool y.2.1, .int .i64 y.2.2.1.1.1, .int .i64 y.2.2.1.1.2, .int .i64 y.2.2.1.2.1, .int .i64 y.2.2.1.2.2, .slice y_a3 y_n3 y_c3, .slice y_a4 y_n4 y_c4, .slice y_a5 y_n5 y_c5, .slice y_a6 y_n6 y_c6, .slice y_a7 y_n7 y_c7] 69)) := More.refl _
    have HB : ∀ w', More ((w.alloc (.cells #[.int .i64 x.1, .bool x.2.1, .int .i64 x.2.2.1.1.1, .int .i64 x.2.2.1.1.2, .int .i64 x.2.2.1.2.1, .int .i64 x.2.2.1.2.2, .slice x_a3 x_n3 x_c3, .slice x_a4 x_n4 x_c4, .slice x_a5 x_n5 x_c5, .slice x_a6 x_n6 x_c6, .slice x_a7 x_n7 x_c7] 69)).alloc (.cells #[.int .i64 y.1, .bool y.2.1, .int .i64 y.2.2.1.1.1, .int .i64 y.2.2.1.1.2, .int .i64 y.2.2.1.2.1, .int .i64 y.2.2.1.2.2, .slice y_a3 y_n3 y_c3, .slice y_a4 y_n4 y_c4, .slice y_a5 y_n5 y_c5, .slice y_a6 y_n6 y_c6, .slice y_a7 y_n7 y_c7] 69)) w' → w'.cell? ⟨w.heap.size, 0, none⟩ = some (.int .i64 x.1) ∧ w'.cell? ⟨w.heap.size, 1, none⟩ = some (.bool x.2.1) ∧ w'.cell? ⟨w.heap.size, 2, none⟩ = some (.int .i64 x.2.2.1.1.1) ∧ w'.cell? ⟨w.heap.size, 3, none⟩ = some (.int .i64 x.2.2.1.1.2) ∧ w'.cell? ⟨w.heap.size, 4, none⟩ = some (.int .i64 x.2.2.1.2.1) ∧ w'.cell? ⟨w.heap.size, 5, none⟩ = some (.int .i64 x.2.2.1.2.2) ∧ w'.cell? ⟨w.heap.size, 6, none⟩ = some (.slice x_a3 x_n3 x_c3) ∧ w'.cell? ⟨w.heap.size, 7, none⟩ = some (.slice x_a4 x_n4 x_c4) ∧ w'.cell? ⟨w.heap.size, 8, none⟩ = some (.slice x_a5 x_n5 x_c5) ∧ w'.cell? ⟨w.heap.size, 9, none⟩ = some (.slice x_a6 x_n6 x_c6) ∧ w'.cell? ⟨w.heap.size, 10, none⟩ = some (.slice x_a7 x_n7 x_c7) ∧ (∀ j, w'.frozen? ⟨w.heap.size, j, none⟩ = false) ∧ w'.cell? ⟨w.heap.size + 1, 0, none⟩ = some (.int .i64 y.1) ∧ w'.cell? ⟨w.heap.size + 1, 1, none⟩ = some (.bool y.2.1) ∧ w'.cell? ⟨w.heap.size + 1, 2, none⟩ = some (.int .i64 y.2.2.1.1.1) ∧ w'.cell? ⟨w.heap.size + 1, 3, none⟩ = some (.int .i64 y.2.2.1.1.2) ∧ w'.cell? ⟨w.heap.size + 1, 4, none⟩ = some (.int .i64 y.2.2.1.2.1) ∧ w'.cell? ⟨w.heap.size + 1, 5, none⟩ = some (.int .i64 y.2.2.1.2.2) ∧ w'.cell? ⟨w.heap.size + 1, 6, none⟩ = some (.slice y_a3 y_n3 y_c3) ∧ w'.cell? ⟨w.heap.size + 1, 7, none⟩ = some (.slice y_a4 y_n4 y_c4) ∧ w'.cell? ⟨w.heap.size + 1, 8, none⟩ = some (.slice y_a5 y_n5 y_c5) ∧ w'.cell? ⟨w.heap.size + 1, 9, none⟩ = some (.slice y_a6 y_n6 y_c6) ∧ w'.cell? ⟨w.heap.size + 1, 10, none⟩ = some (.slice y_a7 y_n7 y_c7) ∧ (∀ j, w'.frozen? ⟨w.heap.size + 1, j, none⟩ = false) := fun w' h => ⟨box_new (by simp) (More.un h) 0, box_new (by simp) (More.un h) 1, box_new (by simp) (More.un h) 2, box_new (by simp) (More.un h) 3, box_new (by simp) (More.un h) 4, box_new (by simp) (More.un h) 5, box_new (by simp) (More.un h) 6, box_new (by simp) (More.un h) 7, box_new (by simp) (More.un h) 8, box_new (by simp) (More.un h) 9, box_new (by simp) (More.un h) 10, fun j => box_free (by simp) (More.un h) j, box_new (by simp) h 0, box_new (by simp) h 1, box_new (by simp) h 2, box_new (by simp) h 3, box_new (by simp) h 4, box_new (by simp) h 5, box_new (by simp) h 6, box_new (by simp) h 7, box_new (by simp) h 8, box_new (by simp) h 9, box_new (by simp) h 10, fun j => box_free (by simp) h j⟩
    go_enter Try.func93, Try.ntmps93
    go_wp2_with (first | (go_at_call 152; (with_reducible refine (impl_sameAreas _ _ x.2.2.2.1 y.2.2.2.1 _ (Ty.at_more FX3.out mC) (Ty.at_more FY3.out mC) HWX3.out HWY3.out).mono ?_); rintro e w1 ⟨rfl, hb1⟩; have HX : More ((w.alloc (.cells #[.int .i64 x.1, .bool x.2.1, .int .i64 x.2.2.1.1.1, .int .i64 x.2.2.1.1.2, .int .i64 x.2.2.1.2.1, .int .i64 x.2.2.1.2.2, .slice x_a3 x_n3 x_c3, .slice x_a4 x_n4 x_c4, .slice x_a5 x_n5 x_c5, .slice x_a6 x_n6 x_c6, .slice x_a7 x_n7 x_c7] 69)).alloc (.cells #[.int .i64 y.1, .bool y.2.1, .int .i64 y.2.2.1.1.1, .int .i64 y.2.2.1.1.2, .int .i64 y.2.2.1.2.1, .int .i64 y.2.2.1.2.2, .slice y_a3 y_n3 y_c3, .slice y_a4 y_n4 y_c4, .slice y_a5 y_n5 y_c5, .slice y_a6 y_n6 y_c6, .slice y_a7 y_n7 y_c7] 69)) _ := More.trans (by assumption) hb1; have HBw := HB _ HX))
    go_ret
    exact ⟨ret_bool (decide_eq_false (fun e => by have h := A6.out; (unfold frm at e; simp only [Prod.mk.injEq] at e; obtain ⟨q1, q2, q3, q4⟩ := e; first | (rw [q1] at h; simp at h; done) | (rw [q2] at h; simp at h; done) | (rw [q3] at h; simp at h; done) | (rw [q4] at h; simp at h; done)))).symm, mC⟩
  have EQ : Hid (frm x = frm y) := Lib.hid (Prod.ext (eq_of_beq a0) (Prod.ext (eq_of_beq a1) (Prod.ext (Prod.ext (Prod.ext (eq_of_beq a2) (eq_of_beq a3)) (Prod.ext (eq_of_beq a4) (eq_of_beq a5))) (of_decide_eq_true a6))))
  have HX : More ((w.alloc (.cells #[.int .i64 x.1, .bool x.2.1, .int .i64 x.2.2.1.1.1, .int .i64 x.2.2.1.1.2, .int .i64 x.2.2.1.2.1, .int .i64 x.2.2.1.2.2, .slice x_a3 x_n3 x_c3, .slice x_a4 x_n4 x_c4, .slice x_a5 x_n5 x_c5, .slice x_a6 x_n6 x_c6, .slice x_a7 x_n7 x_c7] 69)).alloc (.cells #[.int .i64 y.1, .bool y.2.1, .int .i64 y.2.2.1.1.1, .int .i64 y.2.2.1.1.2, .int .i64 y.2.2.1.2.1, .int .i64 y.2.2.1.2.2, .slice y_a3 y_n3 y_c3, .slice y_a4 y_n4 y_c4, .slice y_a5 y_n5 y_c5, .slice y_a6 y_n6 y_c6, .slice y_a7 y_n7 y_c7] 69)) ((w.alloc (.cells #[.int .i64 x.1, .bool x.2.1, .int .i64 x.2.2.1.1.1, .int .i64 x.2.2.1.1.2, .int .i64 x.2.2.1.2.1, .int .i64 x.2.2.1.2.2, .slice x_a3 x_n3 x_c3, .slice x_a4 x_n4 x_c4, .slice x_a5 x_n5 x_c5, .slice x_a6 x_n6 x_c6, .slice x_a7 x_n7 x_c7] 69)).alloc (.cells #[.int .i64 y.1, .bool y.2.1, .int .i64 y.2.2.1.1.1, .int .i64 y.2.2.1.1.2, .int .i64 y.2.2.1.2.1, .int .i64 y.2.2.1.2.2, .slice y_a3 y_n3 y_c3, .slice y_a4 y_n4 y_c4, .slice y_a5 y_n5 y_c5, .slice y_a6 y_n6 y_c6, .slice y_a7 y_n7 y_c7] 69)) := More.refl _
  have HB : ∀ w', More ((w.alloc (.cells #[.int .i64 x.1, .bool x.2.1, .int .i64 x.2.2.1.1.1, .int .i64 x.2.2.1.1.2, .int .i64 x.2.2.1.2.1, .int .i64 x.2.2.1.2.2, .slice x_a3 x_n3 x_c3, .slice x_a4 x_n4 x_c4, .slice x_a5 x_n5 x_c5, .slice x_a6 x_n6 x_c6, .slice x_a7 x_n7 x_c7] 69)).alloc (.cells #[.int .i64 y.1, .bool y.2.1, .int .i64 y.2.2.1.1.1, .int .i64 y.2.2.1.1.2, .int .i64 y.2.2.1.2.1, .int .i64 y.2.2.1.2.2, .slice y_a3 y_n3 y_c3, .slice y_a4 y_n4 y_c4, .slice y_a5 y_n5 y_c5, .slice y_a6 y_n6 y_c6, .slice y_a7 y_n7 y_c7] 69)) w' → w'.cell? ⟨w.heap.size, 0, none⟩ = some (.int .i64 x.1) ∧ w'.cell? ⟨w.heap.size, 1, none⟩ = some (.bool x.2.1) ∧ w'.cell? ⟨w.heap.size, 2, none⟩ = some (.int .i64 x.2.2.1.1.1) ∧ w'.cell? ⟨w.heap.size, 3, none⟩ = some (.int .i64 x.2.2.1.1.2) ∧ w'.cell? ⟨w.heap.size, 4, none⟩ = some (.int .i64 x.2.2.1.2.1) ∧ w'.cell? ⟨w.heap.size, 5, none⟩ = some (.int .i64 x.2.2.1.2.2) ∧ w'.cell? ⟨w.heap.size, 6, none⟩ = some (.slice x_a3 x_n3 x_c3) ∧ w'.cell? ⟨w.heap.size, 7, none⟩ = some (.slice x_a4 x_n4 x_c4) ∧ w'.cell? ⟨w.heap.size, 8, none⟩ = some (.slice x_a5 x_n5 x_c5) ∧ w'.cell? ⟨w.heap.size, 9, none⟩ = some (.slice x_a6 x_n6 x_c6) ∧ w'.cell? ⟨w.heap.size, 10, none⟩ = some (.slice x_a7 x_n7 x_c7) ∧ (∀ j, w'.frozen? ⟨w.heap.size, j, none⟩ = false) ∧ w'.cell? ⟨w.heap.size + 1, 0, none⟩ = some (.int .i64 y.1) ∧ w'.cell? ⟨w.heap.size + 1, 1, none⟩ = some (.bool y.2.1) ∧ w'.cell? ⟨w.heap.size + 1, 2, none⟩ = some (.int .i64 y.2.2.1.1.1) ∧ w'.cell? ⟨w.heap.size + 1, 3, none⟩ = some (.int .i64 y.2.2.1.1.2) ∧ w'.cell? ⟨w.heap.size + 1, 4, none⟩ = some (.int .i64 y.2.2.1.2.1) ∧ w'.cell? ⟨w.heap.size + 1, 5, none⟩ = some (.int .i64 y.2.2.1.2.2) ∧ w'.cell? ⟨w.heap.size + 1, 6, none⟩ = some (.slice y_a3 y_n3 y_c3) ∧ w'.cell? ⟨w.heap.size + 1, 7, none⟩ = some (.slice y_a4 y_n4 y_c4) ∧ w'.cell? ⟨w.heap.size + 1, 8, none⟩ = some (.slice y_a5 y_n5 y_c5) ∧ w'.cell? ⟨w.heap.size + 1, 9, none⟩ = some (.slice y_a6 y_n6 y_c6) ∧ w'.cell? ⟨w.heap.size + 1, 10, none⟩ = some (.slice y_a7 y_n7 y_c7) ∧ (∀ j, w'.frozen? ⟨w.heap.size + 1, j, none⟩ = false) := fun w' h => ⟨box_new (by simp) (More.un h) 0, box_new (by simp) (More.un h) 1, box_new (by simp) (More.un h) 2, box_new (by simp) (More.un h) 3, box_new (by simp) (More.un h) 4, box_new (by simp) (More.un h) 5, box_new (by simp) (More.un h) 6, box_new (by simp) (More.un h) 7, box_new (by simp) (More.un h) 8, box_new (by simp) (More.un h) 9, box_new (by simp) (More.un h) 10, fun j => box_free (by simp) (More.un h) j, box_new (by simp) h 0, box_new (by simp) h 1, box_new (by simp) h 2, box_new (by simp) h 3, box_new (by simp) h 4, box_new (by simp) h 5, box_new (by simp) h 6, box_new (by simp) h 7, box_new (by simp) h 8, box_new (by simp) h 9, box_new (by simp) h 10, fun j => box_free (by simp) h j⟩
  go_enter Try.func93, Try.ntmps93
  go_wp2_with (first | (go_at_call 152; (with_reducible refine (impl_sameAreas _ _ x.2.2.2.1 y.2.2.2.1 _ (Ty.at_more FX3.out mC) (Ty.at_more FY3.out mC) HWX3.out HWY3.out).mono ?_); rintro e w1 ⟨rfl, hb1⟩; have HX : More ((w.alloc (.cells #[.int .i64 x.1, .bool x.2.1, .int .i64 x.2.2.1.1.1, .int .i64 x.2.2.1.1.2, .int .i64 x.2.2.1.2.1, .int .i64 x.2.2.1.2.2, .slice x_a3 x_n3 x_c3, .slice x_a4 x_n4 x_c4, .slice x_a5 x_n5 x_c5, .slice x_a6 x_n6 x_c6, .slice x_a7 x_n7 x_c7] 69)).alloc (.cells #[.int .i64 y.1, .bool y.2.1, .int .i64 y.2.2.1.1.1, .int .i64 y.2.2.1.1.2, .int .i64 y.2.2.1.2.1, .int .i64 y.2.2.1.2.2, .slice y_a3 y_n3 y_c3, .slice y_a4 y_n4 y_c4, .slice y_a5 y_n5 y_c5, .slice y_a6 y_n6 y_c6, .slice y_a7 y_n7 y_c7] 69)) _ := More.trans (by assumption) hb1; have HBw := HB _ HX))
  go_ret
  exact ⟨ret_bool (decide_eq_true EQ.out).symm, mC⟩
end Go.Proofs.Ytbbibfeblaocfaa
