/- Equality of scenes: the program's. -/
import Derived.Test.YtbbibfeblaocfaaEqFv
import Derived.Deep.RegionHeld3
import Derived.Deep.QuietTactic
import Derived.BigQuiet
import Derived.Laws.StructEq
namespace Go.Proofs.Ytbbibfeblaocfaa
open Go.RowKit
set_option maxHeartbeats 400000 in
theorem impl_sameAreas_1 (v v' : Value) (l m : List QV) (w : World) (hv : tVecs.at w [v] l) (hv' : tVecs.at w [v'] m) (hl : l.length ≤ 1048576) (hm : m.length ≤ 1048576) :
    Calls Try.prog 169 #[v, v'] w fun e w' => e = .returned (.bool (decide (l = m))) ∧ More w w' := by
  have HV := Lib.hid hv; have HV' := Lib.hid hv'; have HL := Lib.hid hl; have HM := Lib.hid hm; clear hv hv' hl hm
  go_enter Try.func169, Try.ntmps169
  go_wp2_with (go_at_call 65; refine (slicesEqual_VecS _ _ l m _ HV.out HV'.out HL.out HM.out).mono ?_; rintro e w1 ⟨rfl, hb1⟩)
  go_ret
  exact ⟨rfl, mC⟩
set_option maxHeartbeats 3200000 in
theorem equalFunc_VecSS (v v' : Value) (l m : List (List QV)) (w : World) (hv : tVecSS.at w [v] l) (hv' : tVecSS.at w [v'] m) (hl : wVecSS l ≤ 1048576) (hm : wVecSS m ≤ 1048576) :
    Calls Try.prog 168 #[v, v', .func (.func 169) #[] #[]] w fun e w' => e = .returned (.bool (decide (l = m))) ∧ More w w' := by
  obtain ⟨ao, cap, rfl⟩ := sl_len hv
  obtain ⟨ao', cap', rfl⟩ := sl_len hv'
  have HV := Lib.hid hv; clear hv
  have HV' := Lib.hid hv'; clear hv'
  have HWl : Hid (l.length + wsum wVecS l ≤ 1048576) := Lib.hid hl; have HWm : Hid (m.length + wsum wVecS m ≤ 1048576) := Lib.hid hm
  have hl : l.length ≤ 1048576 := by have := HWl.out; omega
  have hm : m.length ≤ 1048576 := by have := HWm.out; omega
  obtain ⟨n, hn⟩ : ∃ n, n = l.length := ⟨_, rfl⟩
  obtain ⟨n', hn'⟩ : ∃ n', n' = m.length := ⟨_, rfl⟩
  rw [← hn] at HV hl ⊢
  rw [← hn'] at HV' hm ⊢
  have HN := Lib.hid hn; have HN' := Lib.hid hn'; clear hn hn'
  by_cases hne : n = n'
  · subst hne
    go_enter Try.func168, Try.ntmps168
    go_wp2_with fail
    go_loopw [17] (fun i wr => ∃ k : Nat, k ≤ n ∧ i = .int .i64 k ∧ More w wr ∧ Hid (∀ j, j < k → l[j]? = m[j]?)) (fun i _ => n - (intOf i).toNat)
    case atStart => exact ⟨0, Nat.zero_le _, rfl, More.refl _, Lib.hid (fun j hj => by omega)⟩
    case round =>
      obtain ⟨k, hk, rfl, hmr, HE⟩ := hrel
      by_cases hlt : k < n
      · obtain ⟨b, off, x, a0, n0, c0, rfl, hblt, hx, hat, c0_⟩ := el_VecS (Ty.at_more HV.out hmr) (k := k) (by rw [← HN.out]; exact hlt)
        obtain ⟨b', off', y, sa0, sn0, sc0, rfl, hblt', hy, hat', d0_⟩ := el_VecS (Ty.at_more HV'.out hmr) (k := k) (by rw [← HN'.out]; exact hlt)
        have HX := Lib.hid hx; have HX' := Lib.hid hy; clear hx hy
        have HA := Lib.hid hat; have HA' := Lib.hid hat'; clear hat hat'
        have hi0 : (0 : Int) ≤ (k : Int) := by omega
        have hi1 : (k : Int) < (n : Int) := by omega
        have nb : b ≠ wr.heap.size := by omega
        have nb' : b' ≠ wr.heap.size := by omega
        rcases Bool.eq_false_or_eq_true (decide (x = y)) with hd | hd
        rotate_left
        · have HD := Lib.hid hd
          go_wp2_with fail
          refine (impl_sameAreas_1 _ _ x y _ (Ty.at_more HA.out mC) (Ty.at_more HA'.out mC) (show wVecS x ≤ 1048576 by have := wsum_el (f := wVecS) HX.out; have := HWl.out; omega) (show wVecS y ≤ 1048576 by have := wsum_el (f := wVecS) HX'.out; have := HWm.out; omega)).mono ?_
          rintro e w1 ⟨rfl, hb1⟩
          rw [hd]
          go_wp2_with fail
          go_ret
          exact ⟨ret_bool (decide_eq_false (fun e => by
            have h1 := HX.out; have h2 := HX'.out
            rw [e, h2] at h1
            obtain rfl := Option.some.inj h1
            simp at hd)).symm, mC⟩
        have EQ : Hid (x = y) := Lib.hid (of_decide_eq_true hd)
        go_wp2_with fail
        refine (impl_sameAreas_1 _ _ x y _ (Ty.at_more HA.out mC) (Ty.at_more HA'.out mC) (show wVecS x ≤ 1048576 by have := wsum_el (f := wVecS) HX.out; have := HWl.out; omega) (show wVecS y ≤ 1048576 by have := wsum_el (f := wVecS) HX'.out; have := HWm.out; omega)).mono ?_
        rintro e w1 ⟨rfl, hb1⟩
        rw [hd]
        go_wp2_with fail
        go_roundw
        case rel => exact ⟨k + 1, by omega, by go_num, mC, Lib.hid (fun j hj => by
          rcases Nat.lt_succ_iff_lt_or_eq.1 hj with h | rfl
          · exact HE.out j h
          · rw [HX.out, HX'.out, EQ.out])⟩
        case measure => simp [intOf]; omega
      · go_wp2_with fail
        go_ret
        obtain rfl : k = n := by omega
        exact ⟨ret_bool (decide_eq_true (el_ext HN.out.symm HN'.out.symm HE.out)).symm, hmr⟩
  · have hne' : ((n : Int) != (n' : Int)) = true := by simp; omega
    go_enter Try.func168, Try.ntmps168
    go_wp2_with fail
    go_ret
    exact ⟨ret_bool (decide_eq_false (fun e => hne (by rw [HN.out, HN'.out, e]))).symm, More.refl _⟩
set_option maxHeartbeats 400000 in
theorem impl_sameAreas (v v' : Value) (l m : List (List QV)) (w : World) (hv : tVecSS.at w [v] l) (hv' : tVecSS.at w [v'] m) (hl : wVecSS l ≤ 1048576) (hm : wVecSS m ≤ 1048576) :
    Calls Try.prog 152 #[v, v'] w fun e w' => e = .returned (.bool (decide (l = m))) ∧ More w w' := by
  have HV := Lib.hid hv; have HV' := Lib.hid hv'; have HL := Lib.hid hl; have HM := Lib.hid hm; clear hv hv' hl hm
  go_enter Try.func152, Try.ntmps152
  go_wp2_with (go_at_call 168; refine (equalFunc_VecSS _ _ l m _ HV.out HV'.out HL.out HM.out).mono ?_; rintro e w1 ⟨rfl, hb1⟩)
  go_ret
  exact ⟨rfl, mC⟩
set_option maxHeartbeats 3200000 in
theorem impl_SameScene (cs ds : List Value) (x y : QScene) (w : World) (hv : tScene.at w cs x) (hv' : tScene.at w ds y) (hw : wScene x ≤ 1048576) (hw' : wScene y ≤ 1048576) :
    Calls Try.prog 110 #[.agg cs.toArray, .agg ds.toArray] w fun e w' => e = .returned (.bool (decide (x = y))) ∧ More w w' := by
  obtain ⟨x_k0, x_d0, rfl, x_f0, x_e0⟩ := at_prod hv
  obtain ⟨x_k1, x_d1, rfl, x_f1, x_e1⟩ := at_prod x_e0
  obtain ⟨x_k2, x_d2, rfl, x_f2, x_e2⟩ := at_prod x_e1
  obtain ⟨x_k3, x_d3, rfl, x_f3, x_e3⟩ := at_prod x_e2
  have x_f4 := x_e3
  obtain ⟨x_0k0, x_0d0, rfl, x_0f0, x_0e0⟩ := at_prod x_f0
  have x_0f1 := x_0e0
  obtain rfl := sh_int x_0f0
  obtain rfl := sh_int x_0f1
  obtain ⟨x_1k0, x_1d0, rfl, x_1f0, x_1e0⟩ := at_prod x_f1
  have x_1f1 := x_1e0
  obtain rfl := sh_int x_1f0
  obtain rfl := sh_int x_1f1
  obtain ⟨x_a2, x_n2, x_c2, rfl⟩ := sh_slice x_f2
  obtain ⟨x_a3, x_n3, x_c3, rfl⟩ := sh_slice x_f3
  obtain ⟨x_a4, x_n4, x_c4, rfl⟩ := sh_slice x_f4
  obtain ⟨y_k0, y_d0, rfl, y_f0, y_e0⟩ := at_prod hv'
  obtain ⟨y_k1, y_d1, rfl, y_f1, y_e1⟩ := at_prod y_e0
  obtain ⟨y_k2, y_d2, rfl, y_f2, y_e2⟩ := at_prod y_e1
  obtain ⟨y_k3, y_d3, rfl, y_f3, y_e3⟩ := at_prod y_e2
  have y_f4 := y_e3
  obtain ⟨y_0k0, y_0d0, rfl, y_0f0, y_0e0⟩ := at_prod y_f0
  have y_0f1 := y_0e0
  obtain rfl := sh_int y_0f0
  obtain rfl := sh_int y_0f1
  obtain ⟨y_1k0, y_1d0, rfl, y_1f0, y_1e0⟩ := at_prod y_f1
  have y_1f1 := y_1e0
  obtain rfl := sh_int y_1f0
  obtain rfl := sh_int y_1f1
  obtain ⟨y_a2, y_n2, y_c2, rfl⟩ := sh_slice y_f2
  obtain ⟨y_a3, y_n3, y_c3, rfl⟩ := sh_slice y_f3
  obtain ⟨y_a4, y_n4, y_c4, rfl⟩ := sh_slice y_f4
  have FX2 := Lib.hid x_f2; have FY2 := Lib.hid y_f2
  have HWX2 : Hid (x.2.2.1.length ≤ 1048576) := Lib.hid (show wVecS x.2.2.1 ≤ 1048576 by have := hw; unfold wScene at this; omega)
  have HWY2 : Hid (y.2.2.1.length ≤ 1048576) := Lib.hid (show wVecS y.2.2.1 ≤ 1048576 by have := hw'; unfold wScene at this; omega)
  have FX3 := Lib.hid x_f3; have FY3 := Lib.hid y_f3
  have HWX3 : Hid (wVecSS x.2.2.2.1 ≤ 1048576) := Lib.hid (by have := hw; unfold wScene at this; omega)
  have HWY3 : Hid (wVecSS y.2.2.2.1 ≤ 1048576) := Lib.hid (by have := hw'; unfold wScene at this; omega)
  have FX4 := Lib.hid x_f4; have FY4 := Lib.hid y_f4
  have HWX4 : Hid (x.2.2.2.2.length ≤ 1048576) := Lib.hid (show wVecS x.2.2.2.2 ≤ 1048576 by have := hw; unfold wScene at this; omega)
  have HWY4 : Hid (y.2.2.2.2.length ≤ 1048576) := Lib.hid (show wVecS y.2.2.2.2 ≤ 1048576 by have := hw'; unfold wScene at this; omega)
  clear hw hw'
  try clear x_0e0
  try clear x_0f0
  try clear x_0f1
  try clear x_1e0
  try clear x_1f0
  try clear x_1f1
  try clear x_e0
  try clear x_e1
  try clear x_e2
  try clear x_e3
  try clear x_f0
  try clear x_f1
  try clear x_f2
  try clear x_f3
  try clear x_f4
  try clear y_0e0
  try clear y_0f0
  try clear y_0f1
  try clear y_1e0
  try clear y_1f0
  try clear y_1f1
  try clear y_e0
  try clear y_e1
  try clear y_e2
  try clear y_e3
  try clear y_f0
  try clear y_f1
  try clear y_f2
  try clear y_f3
  try clear y_f4
  try clear hv
  try clear hv'
  show Calls Try.prog 110 #[.agg #[.int .i64 x.1.1, .int .i64 x.1.2, .int .i64 x.2.1.1, .int .i64 x.2.1.2, .slice x_a2 x_n2 x_c2, .slice x_a3 x_n3 x_c3, .slice x_a4 x_n4 x_c4], .agg #[.int .i64 y.1.1, .int .i64 y.1.2, .int .i64 y.2.1.1, .int .i64 y.2.1.2, .slice y_a2 y_n2 y_c2, .slice y_a3 y_n3 y_c3, .slice y_a4 y_n4 y_c4]] w _
  rcases Bool.eq_false_or_eq_true (x.1.1 == y.1.1) with a0 | a0
  rotate_left
  · have A0 := Lib.hid a0
    have HX : More ((w.alloc (.cells #[.int .i64 x.1.1, .int .i64 x.1.2, .int .i64 x.2.1.1, .int .i64 x.2.1.2, .slice x_a2 x_n2 x_c2, .slice x_a3 x_n3 x_c3, .slice x_a4 x_n4 x_c4] 45)).alloc (.cells #[.int .i64 y.1.1, .int .i64 y.1.2, .int .i64 y.2.1.1, .int .i64 y.2.1.2, .slice y_a2 y_n2 y_c2, .slice y_a3 y_n3 y_c3, .slice y_a4 y_n4 y_c4] 45)) ((w.alloc (.cells #[.int .i64 x.1.1, .int .i64 x.1.2, .int .i64 x.2.1.1, .int .i64 x.2.1.2, .slice x_a2 x_n2 x_c2, .slice x_a3 x_n3 x_c3, .slice x_a4 x_n4 x_c4] 45)).alloc (.cells #[.int .i64 y.1.1, .int .i64 y.1.2, .int .i64 y.2.1.1, .int .i64 y.2.1.2, .slice y_a2 y_n2 y_c2, .slice y_a3 y_n3 y_c3, .slice y_a4 y_n4 y_c4] 45)) := More.refl _
    have HB : ∀ w', More ((w.alloc (.cells #[.int .i64 x.1.1, .int .i64 x.1.2, .int .i64 x.2.1.1, .int .i64 x.2.1.2, .slice x_a2 x_n2 x_c2, .slice x_a3 x_n3 x_c3, .slice x_a4 x_n4 x_c4] 45)).alloc (.cells #[.int .i64 y.1.1, .int .i64 y.1.2, .int .i64 y.2.1.1, .int .i64 y.2.1.2, .slice y_a2 y_n2 y_c2, .slice y_a3 y_n3 y_c3, .slice y_a4 y_n4 y_c4] 45)) w' → w'.cell? ⟨w.heap.size, 0, none⟩ = some (.int .i64 x.1.1) ∧ w'.cell? ⟨w.heap.size, 1, none⟩ = some (.int .i64 x.1.2) ∧ w'.cell? ⟨w.heap.size, 2, none⟩ = some (.int .i64 x.2.1.1) ∧ w'.cell? ⟨w.heap.size, 3, none⟩ = some (.int .i64 x.2.1.2) ∧ w'.cell? ⟨w.heap.size, 4, none⟩ = some (.slice x_a2 x_n2 x_c2) ∧ w'.cell? ⟨w.heap.size, 5, none⟩ = some (.slice x_a3 x_n3 x_c3) ∧ w'.cell? ⟨w.heap.size, 6, none⟩ = some (.slice x_a4 x_n4 x_c4) ∧ (∀ j, w'.frozen? ⟨w.heap.size, j, none⟩ = false) ∧ w'.cell? ⟨w.heap.size + 1, 0, none⟩ = some (.int .i64 y.1.1) ∧ w'.cell? ⟨w.heap.size + 1, 1, none⟩ = some (.int .i64 y.1.2) ∧ w'.cell? ⟨w.heap.size + 1, 2, none⟩ = some (.int .i64 y.2.1.1) ∧ w'.cell? ⟨w.heap.size + 1, 3, none⟩ = some (.int .i64 y.2.1.2) ∧ w'.cell? ⟨w.heap.size + 1, 4, none⟩ = some (.slice y_a2 y_n2 y_c2) ∧ w'.cell? ⟨w.heap.size + 1, 5, none⟩ = some (.slice y_a3 y_n3 y_c3) ∧ w'.cell? ⟨w.heap.size + 1, 6, none⟩ = some (.slice y_a4 y_n4 y_c4) ∧ (∀ j, w'.frozen? ⟨w.heap.size + 1, j, none⟩ = false) := fun w' h => ⟨box_new (by simp) (More.un h) 0, box_new (by simp) (More.un h) 1, box_new (by simp) (More.un h) 2, box_new (by simp) (More.un h) 3, box_new (by simp) (More.un h) 4, box_new (by simp) (More.un h) 5, box_new (by simp) (More.un h) 6, fun j => box_free (by simp) (More.un h) j, box_new (by simp) h 0, box_new (by simp) h 1, box_new (by simp) h 2, box_new (by simp) h 3, box_new (by simp) h 4, box_new (by simp) h 5, box_new (by simp) h 6, fun j => box_free (by simp) h j⟩
    go_enter Try.func110, Try.ntmps110
    go_wp2_with (first | (go_at_call 65; (with_reducible refine (slicesEqual_VecS _ _ x.2.2.1 y.2.2.1 _ (Ty.at_more FX2.out mC) (Ty.at_more FY2.out mC) HWX2.out HWY2.out).mono ?_); rintro e w1 ⟨rfl, hb1⟩; have HX : More ((w.alloc (.cells #[.int .i64 x.1.1, .int .i64 x.1.2, .int .i64 x.2.1.1, .int .i64 x.2.1.2, .slice x_a2 x_n2 x_c2, .slice x_a3 x_n3 x_c3, .slice x_a4 x_n4 x_c4] 45)).alloc (.cells #[.int .i64 y.1.1, .int .i64 y.1.2, .int .i64 y.2.1.1, .int .i64 y.2.1.2, .slice y_a2 y_n2 y_c2, .slice y_a3 y_n3 y_c3, .slice y_a4 y_n4 y_c4] 45)) _ := More.trans (by assumption) hb1; have HBw := HB _ HX) | (go_at_call 152; (with_reducible refine (impl_sameAreas _ _ x.2.2.2.1 y.2.2.2.1 _ (Ty.at_more FX3.out mC) (Ty.at_more FY3.out mC) HWX3.out HWY3.out).mono ?_); rintro e w1 ⟨rfl, hb1⟩; have HX : More ((w.alloc (.cells #[.int .i64 x.1.1, .int .i64 x.1.2, .int .i64 x.2.1.1, .int .i64 x.2.1.2, .slice x_a2 x_n2 x_c2, .slice x_a3 x_n3 x_c3, .slice x_a4 x_n4 x_c4] 45)).alloc (.cells #[.int .i64 y.1.1, .int .i64 y.1.2, .int .i64 y.2.1.1, .int .i64 y.2.1.2, .slice y_a2 y_n2 y_c2, .slice y_a3 y_n3 y_c3, .slice y_a4 y_n4 y_c4] 45)) _ := More.trans (by assumption) hb1; have HBw := HB _ HX) | (go_at_call 65; (with_reducible refine (slicesEqual_VecS _ _ x.2.2.2.2 y.2.2.2.2 _ (Ty.at_more FX4.out mC) (Ty.at_more FY4.out mC) HWX4.out HWY4.out).mono ?_); rintro e w1 ⟨rfl, hb1⟩; have HX : More ((w.alloc (.cells #[.int .i64 x.1.1, .int .i64 x.1.2, .int .i64 x.2.1.1, .int .i64 x.2.1.2, .slice x_a2 x_n2 x_c2, .slice x_a3 x_n3 x_c3, .slice x_a4 x_n4 x_c4] 45)).alloc (.cells #[.int .i64 y.1.1, .int .i64 y.1.2, .int .i64 y.2.1.1, .int .i64 y.2.1.2, .slice y_a2 y_n2 y_c2, .slice y_a3 y_n3 y_c3, .slice y_a4 y_n4 y_c4] 45)) _ := More.trans (by assumption) hb1; have HBw := HB _ HX))
    go_ret
    exact ⟨ret_bool (decide_eq_false (fun e => by have h := A0.out; rw [e] at h; simp at h)).symm, mC⟩
  rcases Bool.eq_false_or_eq_true (x.1.2 == y.1.2) with a1 | a1
  rotate_left
  · have A1 := Lib.hid a1
    have HX : More ((w.alloc (.cells #[.int .i64 x.1.1, .int .i64 x.1.2, .int .i64 x.2.1.1, .int .i64 x.2.1.2, .slice x_a2 x_n2 x_c2, .slice x_a3 x_n3 x_c3, .slice x_a4 x_n4 x_c4] 45)).alloc (.cells #[.int .i64 y.1.1, .int .i64 y.1.2, .int .i64 y.2.1.1, .int .i64 y.2.1.2, .slice y_a2 y_n2 y_c2, .slice y_a3 y_n3 y_c3, .slice y_a4 y_n4 y_c4] 45)) ((w.alloc (.cells #[.int .i64 x.1.1, .int .i64 x.1.2, .int .i64 x.2.1.1, .int .i64 x.2.1.2, .slice x_a2 x_n2 x_c2, .slice x_a3 x_n3 x_c3, .slice x_a4 x_n4 x_c4] 45)).alloc (.cells #[.int .i64 y.1.1, .int .i64 y.1.2, .int .i64 y.2.1.1, .int .i64 y.2.1.2, .slice y_a2 y_n2 y_c2, .slice y_a3 y_n3 y_c3, .slice y_a4 y_n4 y_c4] 45)) := More.refl _
    have HB : ∀ w', More ((w.alloc (.cells #[.int .i64 x.1.1, .int .i64 x.1.2, .int .i64 x.2.1.1, .int .i64 x.2.1.2, .slice x_a2 x_n2 x_c2, .slice x_a3 x_n3 x_c3, .slice x_a4 x_n4 x_c4] 45)).alloc (.cells #[.int .i64 y.1.1, .int .i64 y.1.2, .int .i64 y.2.1.1, .int .i64 y.2.1.2, .slice y_a2 y_n2 y_c2, .slice y_a3 y_n3 y_c3, .slice y_a4 y_n4 y_c4] 45)) w' → w'.cell? ⟨w.heap.size, 0, none⟩ = some (.int .i64 x.1.1) ∧ w'.cell? ⟨w.heap.size, 1, none⟩ = some (.int .i64 x.1.2) ∧ w'.cell? ⟨w.heap.size, 2, none⟩ = some (.int .i64 x.2.1.1) ∧ w'.cell? ⟨w.heap.size, 3, none⟩ = some (.int .i64 x.2.1.2) ∧ w'.cell? ⟨w.heap.size, 4, none⟩ = some (.slice x_a2 x_n2 x_c2) ∧ w'.cell? ⟨w.heap.size, 5, none⟩ = some (.slice x_a3 x_n3 x_c3) ∧ w'.cell? ⟨w.heap.size, 6, none⟩ = some (.slice x_a4 x_n4 x_c4) ∧ (∀ j, w'.frozen? ⟨w.heap.size, j, none⟩ = false) ∧ w'.cell? ⟨w.heap.size + 1, 0, none⟩ = some (.int .i64 y.1.1) ∧ w'.cell? ⟨w.heap.size + 1, 1, none⟩ = some (.int .i64 y.1.2) ∧ w'.cell? ⟨w.heap.size + 1, 2, none⟩ = some (.int .i64 y.2.1.1) ∧ w'.cell? ⟨w.heap.size + 1, 3, none⟩ = some (.int .i64 y.2.1.2) ∧ w'.cell? ⟨w.heap.size + 1, 4, none⟩ = some (.slice y_a2 y_n2 y_c2) ∧ w'.cell? ⟨w.heap.size + 1, 5, none⟩ = some (.slice y_a3 y_n3 y_c3) ∧ w'.cell? ⟨w.heap.size + 1, 6, none⟩ = some (.slice y_a4 y_n4 y_c4) ∧ (∀ j, w'.frozen? ⟨w.heap.size + 1, j, none⟩ = false) := fun w' h => ⟨box_new (by simp) (More.un h) 0, box_new (by simp) (More.un h) 1, box_new (by simp) (More.un h) 2, box_new (by simp) (More.un h) 3, box_new (by simp) (More.un h) 4, box_new (by simp) (More.un h) 5, box_new (by simp) (More.un h) 6, fun j => box_free (by simp) (More.un h) j, box_new (by simp) h 0, box_new (by simp) h 1, box_new (by simp) h 2, box_new (by simp) h 3, box_new (by simp) h 4, box_new (by simp) h 5, box_new (by simp) h 6, fun j => box_free (by simp) h j⟩
    go_enter Try.func110, Try.ntmps110
    go_wp2_with (first | (go_at_call 65; (with_reducible refine (slicesEqual_VecS _ _ x.2.2.1 y.2.2.1 _ (Ty.at_more FX2.out mC) (Ty.at_more FY2.out mC) HWX2.out HWY2.out).mono ?_); rintro e w1 ⟨rfl, hb1⟩; have HX : More ((w.alloc (.cells #[.int .i64 x.1.1, .int .i64 x.1.2, .int .i64 x.2.1.1, .int .i64 x.2.1.2, .slice x_a2 x_n2 x_c2, .slice x_a3 x_n3 x_c3, .slice x_a4 x_n4 x_c4] 45)).alloc (.cells #[.int .i64 y.1.1, .int .i64 y.1.2, .int .i64 y.2.1.1, .int .i64 y.2.1.2, .slice y_a2 y_n2 y_c2, .slice y_a3 y_n3 y_c3, .slice y_a4 y_n4 y_c4] 45)) _ := More.trans (by assumption) hb1; have HBw := HB _ HX) | (go_at_call 152; (with_reducible refine (impl_sameAreas _ _ x.2.2.2.1 y.2.2.2.1 _ (Ty.at_more FX3.out mC) (Ty.at_more FY3.out mC) HWX3.out HWY3.out).mono ?_); rintro e w1 ⟨rfl, hb1⟩; have HX : More ((w.alloc (.cells #[.int .i64 x.1.1, .int .i64 x.1.2, .int .i64 x.2.1.1, .int .i64 x.2.1.2, .slice x_a2 x_n2 x_c2, .slice x_a3 x_n3 x_c3, .slice x_a4 x_n4 x_c4] 45)).alloc (.cells #[.int .i64 y.1.1, .int .i64 y.1.2, .int .i64 y.2.1.1, .int .i64 y.2.1.2, .slice y_a2 y_n2 y_c2, .slice y_a3 y_n3 y_c3, .slice y_a4 y_n4 y_c4] 45)) _ := More.trans (by assumption) hb1; have HBw := HB _ HX) | (go_at_call 65; (with_reducible refine (slicesEqual_VecS _ _ x.2.2.2.2 y.2.2.2.2 _ (Ty.at_more FX4.out mC) (Ty.at_more FY4.out mC) HWX4.out HWY4.out).mono ?_); rintro e w1 ⟨rfl, hb1⟩; have HX : More ((w.alloc (.cells #[.int .i64 x.1.1, .int .i64 x.1.2, .int .i64 x.2.1.1, .int .i64 x.2.1.2, .slice x_a2 x_n2 x_c2, .slice x_a3 x_n3 x_c3, .slice x_a4 x_n4 x_c4] 45)).alloc (.cells #[.int .i64 y.1.1, .int .i64 y.1.2, .int .i64 y.2.1.1, .int .i64 y.2.1.2, .slice y_a2 y_n2 y_c2, .slice y_a3 y_n3 y_c3, .slice y_a4 y_n4 y_c4] 45)) _ := More.trans (by assumption) hb1; have HBw := HB _ HX))
    go_ret
    exact ⟨ret_bool (decide_eq_false (fun e => by have h := A1.out; rw [e] at h; simp at h)).symm, mC⟩
  rcases Bool.eq_false_or_eq_true (x.2.1.1 == y.2.1.1) with a2 | a2
  rotate_left
  · have A2 := Lib.hid a2
    have HX : More ((w.alloc (.cells #[.int .i64 x.1.1, .int .i64 x.1.2, .int .i64 x.2.1.1, .int .i64 x.2.1.2, .slice x_a2 x_n2 x_c2, .slice x_a3 x_n3 x_c3, .slice x_a4 x_n4 x_c4] 45)).alloc (.cells #[.int .i64 y.1.1, .int .i64 y.1.2, .int .i64 y.2.1.1, .int .i64 y.2.1.2, .slice y_a2 y_n2 y_c2, .slice y_a3 y_n3 y_c3, .slice y_a4 y_n4 y_c4] 45)) ((w.alloc (.cells #[.int .i64 x.1.1, .int .i64 x.1.2, .int .i64 x.2.1.1, .int .i64 x.2.1.2, .slice x_a2 x_n2 x_c2, .slice x_a3 x_n3 x_c3, .slice x_a4 x_n4 x_c4] 45)).alloc (.cells #[.int .i64 y.1.1, .int .i64 y.1.2, .int .i64 y.2.1.1, .int .i64 y.2.1.2, .slice y_a2 y_n2 y_c2, .slice y_a3 y_n3 y_c3, .slice y_a4 y_n4 y_c4] 45)) := More.refl _
    have HB : ∀ w', More ((w.alloc (.cells #[.int .i64 x.1.1, .int .i64 x.1.2, .int .i64 x.2.1.1, .int .i64 x.2.1.2, .slice x_a2 x_n2 x_c2, .slice x_a3 x_n3 x_c3, .slice x_a4 x_n4 x_c4] 45)).alloc (.cells #[.int .i64 y.1.1, .int .i64 y.1.2, .int .i64 y.2.1.1, .int .i64 y.2.1.2, .slice y_a2 y_n2 y_c2, .slice y_a3 y_n3 y_c3, .slice y_a4 y_n4 y_c4] 45)) w' → w'.cell? ⟨w.heap.size, 0, none⟩ = some (.int .i64 x.1.1) ∧ w'.cell? ⟨w.heap.size, 1, none⟩ = some (.int .i64 x.1.2) ∧ w'.cell? ⟨w.heap.size, 2, none⟩ = some (.int .i64 x.2.1.1) ∧ w'.cell? ⟨w.heap.size, 3, none⟩ = some (.int .i64 x.2.1.2) ∧ w'.cell? ⟨w.heap.size, 4, none⟩ = some (.slice x_a2 x_n2 x_c2) ∧ w'.cell? ⟨w.heap.size, 5, none⟩ = some (.slice x_a3 x_n3 x_c3) ∧ w'.cell? ⟨w.heap.size, 6, none⟩ = some (.slice x_a4 x_n4 x_c4) ∧ (∀ j, w'.frozen? ⟨w.heap.size, j, none⟩ = false) ∧ w'.cell? ⟨w.heap.size + 1, 0, none⟩ = some (.int .i64 y.1.1) ∧ w'.cell? ⟨w.heap.size + 1, 1, none⟩ = some (.int .i64 y.1.2) ∧ w'.cell? ⟨w.heap.size + 1, 2, none⟩ = some (.int .i64 y.2.1.1) ∧ w'.cell? ⟨w.heap.size + 1, 3, none⟩ = some (.int .i64 y.2.1.2) ∧ w'.cell? ⟨w.heap.size + 1, 4, none⟩ = some (.slice y_a2 y_n2 y_c2) ∧ w'.cell? ⟨w.heap.size + 1, 5, none⟩ = some (.slice y_a3 y_n3 y_c3) ∧ w'.cell? ⟨w.heap.size + 1, 6, none⟩ = some (.slice y_a4 y_n4 y_c4) ∧ (∀ j, w'.frozen? ⟨w.heap.size + 1, j, none⟩ = false) := fun w' h => ⟨box_new (by simp) (More.un h) 0, box_new (by simp) (More.un h) 1, box_new (by simp) (More.un h) 2, box_new (by simp) (More.un h) 3, box_new (by simp) (More.un h) 4, box_new (by simp) (More.un h) 5, box_new (by simp) (More.un h) 6, fun j => box_free (by simp) (More.un h) j, box_new (by simp) h 0, box_new (by simp) h 1, box_new (by simp) h 2, box_new (by simp) h 3, box_new (by simp) h 4, box_new (by simp) h 5, box_new (by simp) h 6, fun j => box_free (by simp) h j⟩
    go_enter Try.func110, Try.ntmps110
    go_wp2_with (first | (go_at_call 65; (with_reducible refine (slicesEqual_VecS _ _ x.2.2.1 y.2.2.1 _ (Ty.at_more FX2.out mC) (Ty.at_more FY2.out mC) HWX2.out HWY2.out).mono ?_); rintro e w1 ⟨rfl, hb1⟩; have HX : More ((w.alloc (.cells #[.int .i64 x.1.1, .int .i64 x.1.2, .int .i64 x.2.1.1, .int .i64 x.2.1.2, .slice x_a2 x_n2 x_c2, .slice x_a3 x_n3 x_c3, .slice x_a4 x_n4 x_c4] 45)).alloc (.cells #[.int .i64 y.1.1, .int .i64 y.1.2, .int .i64 y.2.1.1, .int .i64 y.2.1.2, .slice y_a2 y_n2 y_c2, .slice y_a3 y_n3 y_c3, .slice y_a4 y_n4 y_c4] 45)) _ := More.trans (by assumption) hb1; have HBw := HB _ HX) | (go_at_call 152; (with_reducible refine (impl_sameAreas _ _ x.2.2.2.1 y.2.2.2.1 _ (Ty.at_more FX3.out mC) (Ty.at_more FY3.out mC) HWX3.out HWY3.out).mono ?_); rintro e w1 ⟨rfl, hb1⟩; have HX : More ((w.alloc (.cells #[.int .i64 x.1.1, .int .i64 x.1.2, .int .i64 x.2.1.1, .int .i64 x.2.1.2, .slice x_a2 x_n2 x_c2, .slice x_a3 x_n3 x_c3, .slice x_a4 x_n4 x_c4] 45)).alloc (.cells #[.int .i64 y.1.1, .int .i64 y.1.2, .int .i64 y.2.1.1, .int .i64 y.2.1.2, .slice y_a2 y_n2 y_c2, .slice y_a3 y_n3 y_c3, .slice y_a4 y_n4 y_c4] 45)) _ := More.trans (by assumption) hb1; have HBw := HB _ HX) | (go_at_call 65; (with_reducible refine (slicesEqual_VecS _ _ x.2.2.2.2 y.2.2.2.2 _ (Ty.at_more FX4.out mC) (Ty.at_more FY4.out mC) HWX4.out HWY4.out).mono ?_); rintro e w1 ⟨rfl, hb1⟩; have HX : More ((w.alloc (.cells #[.int .i64 x.1.1, .int .i64 x.1.2, .int .i64 x.2.1.1, .int .i64 x.2.1.2, .slice x_a2 x_n2 x_c2, .slice x_a3 x_n3 x_c3, .slice x_a4 x_n4 x_c4] 45)).alloc (.cells #[.int .i64 y.1.1, .int .i64 y.1.2, .int .i64 y.2.1.1, .int .i64 y.2.1.2, .slice y_a2 y_n2 y_c2, .slice y_a3 y_n3 y_c3, .slice y_a4 y_n4 y_c4] 45)) _ := More.trans (by assumption) hb1; have HBw := HB _ HX))
    go_ret
    exact ⟨ret_bool (decide_eq_false (fun e => by have h := A2.out; rw [e] at h; simp at h)).symm, mC⟩
  rcases Bool.eq_false_or_eq_true (x.2.1.2 == y.2.1.2) with a3 | a3
  rotate_left
  · have A3 := Lib.hid a3
    have HX : More ((w.alloc (.cells #[.int .i64 x.1.1, .int .i64 x.1.2, .int .i64 x.2.1.1, .int .i64 x.2.1.2, .slice x_a2 x_n2 x_c2, .slice x_a3 x_n3 x_c3, .slice x_a4 x_n4 x_c4] 45)).alloc (.cells #[.int .i64 y.1.1, .int .i64 y.1.2, .int .i64 y.2.1.1, .int .i64 y.2.1.2, .slice y_a2 y_n2 y_c2, .slice y_a3 y_n3 y_c3, .slice y_a4 y_n4 y_c4] 45)) ((w.alloc (.cells #[.int .i64 x.1.1, .int .i64 x.1.2, .int .i64 x.2.1.1, .int .i64 x.2.1.2, .slice x_a2 x_n2 x_c2, .slice x_a3 x_n3 x_c3, .slice x_a4 x_n4 x_c4] 45)).alloc (.cells #[.int .i64 y.1.1, .int .i64 y.1.2, .int .i64 y.2.1.1, .int .i64 y.2.1.2, .slice y_a2 y_n2 y_c2, .slice y_a3 y_n3 y_c3, .slice y_a4 y_n4 y_c4] 45)) := More.refl _
    have HB : ∀ w', More ((w.alloc (.cells #[.int .i64 x.1.1, .int .i64 x.1.2, .int .i64 x.2.1.1, .int .i64 x.2.1.2, .slice x_a2 x_n2 x_c2, .slice x_a3 x_n3 x_c3, .slice x_a4 x_n4 x_c4] 45)).alloc (.cells #[.int .i64 y.1.1, .int .i64 y.1.2, .int .i64 y.2.1.1, .int .i64 y.2.1.2, .slice y_a2 y_n2 y_c2, .slice y_a3 y_n3 y_c3, .slice y_a4 y_n4 y_c4] 45)) w' → w'.cell? ⟨w.heap.size, 0, none⟩ = some (.int .i64 x.1.1) ∧ w'.cell? ⟨w.heap.size, 1, none⟩ = some (.int .i64 x.1.2) ∧ w'.cell? ⟨w.heap.size, 2, none⟩ = some (.int .i64 x.2.1.1) ∧ w'.cell? ⟨w.heap.size, 3, none⟩ = some (.int .i64 x.2.1.2) ∧ w'.cell? ⟨w.heap.size, 4, none⟩ = some (.slice x_a2 x_n2 x_c2) ∧ w'.cell? ⟨w.heap.size, 5, none⟩ = some (.slice x_a3 x_n3 x_c3) ∧ w'.cell? ⟨w.heap.size, 6, none⟩ = some (.slice x_a4 x_n4 x_c4) ∧ (∀ j, w'.frozen? ⟨w.heap.size, j, none⟩ = false) ∧ w'.cell? ⟨w.heap.size + 1, 0, none⟩ = some (.int .i64 y.1.1) ∧ w'.cell? ⟨w.heap.size + 1, 1, none⟩ = some (.int .i64 y.1.2) ∧ w'.cell? ⟨w.heap.size + 1, 2, none⟩ = some (.int .i64 y.2.1.1) ∧ w'.cell? ⟨w.heap.size + 1, 3, none⟩ = some (.int .i64 y.2.1.2) ∧ w'.cell? ⟨w.heap.size + 1, 4, none⟩ = some (.slice y_a2 y_n2 y_c2) ∧ w'.cell? ⟨w.heap.size + 1, 5, none⟩ = some (.slice y_a3 y_n3 y_c3) ∧ w'.cell? ⟨w.heap.size + 1, 6, none⟩ = some (.slice y_a4 y_n4 y_c4) ∧ (∀ j, w'.frozen? ⟨w.heap.size + 1, j, none⟩ = false) := fun w' h => ⟨box_new (by simp) (More.un h) 0, box_new (by simp) (More.un h) 1, box_new (by simp) (More.un h) 2, box_new (by simp) (More.un h) 3, box_new (by simp) (More.un h) 4, box_new (by simp) (More.un h) 5, box_new (by simp) (More.un h) 6, fun j => box_free (by simp) (More.un h) j, box_new (by simp) h 0, box_new (by simp) h 1, box_new (by simp) h 2, box_new (by simp) h 3, box_new (by simp) h 4, box_new (by simp) h 5, box_new (by simp) h 6, fun j => box_free (by simp) h j⟩
    go_enter Try.func110, Try.ntmps110
    go_wp2_with (first | (go_at_call 65; (with_reducible refine (slicesEqual_VecS _ _ x.2.2.1 y.2.2.1 _ (Ty.at_more FX2.out mC) (Ty.at_more FY2.out mC) HWX2.out HWY2.out).mono ?_); rintro e w1 ⟨rfl, hb1⟩; have HX : More ((w.alloc (.cells #[.int .i64 x.1.1, .int .i64 x.1.2, .int .i64 x.2.1.1, .int .i64 x.2.1.2, .slice x_a2 x_n2 x_c2, .slice x_a3 x_n3 x_c3, .slice x_a4 x_n4 x_c4] 45)).alloc (.cells #[.int .i64 y.1.1, .int .i64 y.1.2, .int .i64 y.2.1.1, .int .i64 y.2.1.2, .slice y_a2 y_n2 y_c2, .slice y_a3 y_n3 y_c3, .slice y_a4 y_n4 y_c4] 45)) _ := More.trans (by assumption) hb1; have HBw := HB _ HX) | (go_at_call 152; (with_reducible refine (impl_sameAreas _ _ x.2.2.2.1 y.2.2.2.1 _ (Ty.at_more FX3.out mC) (Ty.at_more FY3.out mC) HWX3.out HWY3.out).mono ?_); rintro e w1 ⟨rfl, hb1⟩; have HX : More ((w.alloc (.cells #[.int .i64 x.1.1, .int .i64 x.1.2, .int .i64 x.2.1.1, .int .i64 x.2.1.2, .slice x_a2 x_n2 x_c2, .slice x_a3 x_n3 x_c3, .slice x_a4 x_n4 x_c4] 45)).alloc (.cells #[.int .i64 y.1.1, .int .i64 y.1.2, .int .i64 y.2.1.1, .int .i64 y.2.1.2, .slice y_a2 y_n2 y_c2, .slice y_a3 y_n3 y_c3, .slice y_a4 y_n4 y_c4] 45)) _ := More.trans (by assumption) hb1; have HBw := HB _ HX) | (go_at_call 65; (with_reducible refine (slicesEqual_VecS _ _ x.2.2.2.2 y.2.2.2.2 _ (Ty.at_more FX4.out mC) (Ty.at_more FY4.out mC) HWX4.out HWY4.out).mono ?_); rintro e w1 ⟨rfl, hb1⟩; have HX : More ((w.alloc (.cells #[.int .i64 x.1.1, .int .i64 x.1.2, .int .i64 x.2.1.1, .int .i64 x.2.1.2, .slice x_a2 x_n2 x_c2, .slice x_a3 x_n3 x_c3, .slice x_a4 x_n4 x_c4] 45)).alloc (.cells #[.int .i64 y.1.1, .int .i64 y.1.2, .int .i64 y.2.1.1, .int .i64 y.2.1.2, .slice y_a2 y_n2 y_c2, .slice y_a3 y_n3 y_c3, .slice y_a4 y_n4 y_c4] 45)) _ := More.trans (by assumption) hb1; have HBw := HB _ HX))
    go_ret
    exact ⟨ret_bool (decide_eq_false (fun e => by have h := A3.out; rw [e] at h; simp at h)).symm, mC⟩
  rcases Bool.eq_false_or_eq_true (decide (x.2.2.1 = y.2.2.1)) with a4 | a4
  rotate_left
  · have A4 := Lib.hid a4
    have HX : More ((w.alloc (.cells #[.int .i64 x.1.1, .int .i64 x.1.2, .int .i64 x.2.1.1, .int .i64 x.2.1.2, .slice x_a2 x_n2 x_c2, .slice x_a3 x_n3 x_c3, .slice x_a4 x_n4 x_c4] 45)).alloc (.cells #[.int .i64 y.1.1, .int .i64 y.1.2, .int .i64 y.2.1.1, .int .i64 y.2.1.2, .slice y_a2 y_n2 y_c2, .slice y_a3 y_n3 y_c3, .slice y_a4 y_n4 y_c4] 45)) ((w.alloc (.cells #[.int .i64 x.1.1, .int .i64 x.1.2, .int .i64 x.2.1.1, .int .i64 x.2.1.2, .slice x_a2 x_n2 x_c2, .slice x_a3 x_n3 x_c3, .slice x_a4 x_n4 x_c4] 45)).alloc (.cells #[.int .i64 y.1.1, .int .i64 y.1.2, .int .i64 y.2.1.1, .int .i64 y.2.1.2, .slice y_a2 y_n2 y_c2, .slice y_a3 y_n3 y_c3, .slice y_a4 y_n4 y_c4] 45)) := More.refl _
    have HB : ∀ w', More ((w.alloc (.cells #[.int .i64 x.1.1, .int .i64 x.1.2, .int .i64 x.2.1.1, .int .i64 x.2.1.2, .slice x_a2 x_n2 x_c2, .slice x_a3 x_n3 x_c3, .slice x_a4 x_n4 x_c4] 45)).alloc (.cells #[.int .i64 y.1.1, .int .i64 y.1.2, .int .i64 y.2.1.1, .int .i64 y.2.1.2, .slice y_a2 y_n2 y_c2, .slice y_a3 y_n3 y_c3, .slice y_a4 y_n4 y_c4] 45)) w' → w'.cell? ⟨w.heap.size, 0, none⟩ = some (.int .i64 x.1.1) ∧ w'.cell? ⟨w.heap.size, 1, none⟩ = some (.int .i64 x.1.2) ∧ w'.cell? ⟨w.heap.size, 2, none⟩ = some (.int .i64 x.2.1.1) ∧ w'.cell? ⟨w.heap.size, 3, none⟩ = some (.int .i64 x.2.1.2) ∧ w'.cell? ⟨w.heap.size, 4, none⟩ = some (.slice x_a2 x_n2 x_c2) ∧ w'.cell? ⟨w.heap.size, 5, none⟩ = some (.slice x_a3 x_n3 x_c3) ∧ w'.cell? ⟨w.heap.size, 6, none⟩ = some (.slice x_a4 x_n4 x_c4) ∧ (∀ j, w'.frozen? ⟨w.heap.size, j, none⟩ = false) ∧ w'.cell? ⟨w.heap.size + 1, 0, none⟩ = some (.int .i64 y.1.1) ∧ w'.cell? ⟨w.heap.size + 1, 1, none⟩ = some (.int .i64 y.1.2) ∧ w'.cell? ⟨w.heap.size + 1, 2, none⟩ = some (.int .i64 y.2.1.1) ∧ w'.cell? ⟨w.heap.size + 1, 3, none⟩ = some (.int .i64 y.2.1.2) ∧ w'.cell? ⟨w.heap.size + 1, 4, none⟩ = some (.slice y_a2 y_n2 y_c2) ∧ w'.cell? ⟨w.heap.size + 1, 5, none⟩ = some (.slice y_a3 y_n3 y_c3) ∧ w'.cell? ⟨w.heap.size + 1, 6, none⟩ = some (.slice y_a4 y_n4 y_c4) ∧ (∀ j, w'.frozen? ⟨w.heap.size + 1, j, none⟩ = false) := fun w' h => ⟨box_new (by simp) (More.un h) 0, box_new (by simp) (More.un h) 1, box_new (by simp) (More.un h) 2, box_new (by simp) (More.un h) 3, box_new (by simp) (More.un h) 4, box_new (by simp) (More.un h) 5, box_new (by simp) (More.un h) 6, fun j => box_free (by simp) (More.un h) j, box_new (by simp) h 0, box_new (by simp) h 1, box_new (by simp) h 2, box_new (by simp) h 3, box_new (by simp) h 4, box_new (by simp) h 5, box_new (by simp) h 6, fun j => box_free (by simp) h j⟩
    go_enter Try.func110, Try.ntmps110
    go_wp2_with (first | (go_at_call 65; (with_reducible refine (slicesEqual_VecS _ _ x.2.2.1 y.2.2.1 _ (Ty.at_more FX2.out mC) (Ty.at_more FY2.out mC) HWX2.out HWY2.out).mono ?_); rintro e w1 ⟨rfl, hb1⟩; have HX : More ((w.alloc (.cells #[.int .i64 x.1.1, .int .i64 x.1.2, .int .i64 x.2.1.1, .int .i64 x.2.1.2, .slice x_a2 x_n2 x_c2, .slice x_a3 x_n3 x_c3, .slice x_a4 x_n4 x_c4] 45)).alloc (.cells #[.int .i64 y.1.1, .int .i64 y.1.2, .int .i64 y.2.1.1, .int .i64 y.2.1.2, .slice y_a2 y_n2 y_c2, .slice y_a3 y_n3 y_c3, .slice y_a4 y_n4 y_c4] 45)) _ := More.trans (by assumption) hb1; have HBw := HB _ HX) | (go_at_call 152; (with_reducible refine (impl_sameAreas _ _ x.2.2.2.1 y.2.2.2.1 _ (Ty.at_more FX3.out mC) (Ty.at_more FY3.out mC) HWX3.out HWY3.out).mono ?_); rintro e w1 ⟨rfl, hb1⟩; have HX : More ((w.alloc (.cells #[.int .i64 x.1.1, .int .i64 x.1.2, .int .i64 x.2.1.1, .int .i64 x.2.1.2, .slice x_a2 x_n2 x_c2, .slice x_a3 x_n3 x_c3, .slice x_a4 x_n4 x_c4] 45)).alloc (.cells #[.int .i64 y.1.1, .int .i64 y.1.2, .int .i64 y.2.1.1, .int .i64 y.2.1.2, .slice y_a2 y_n2 y_c2, .slice y_a3 y_n3 y_c3, .slice y_a4 y_n4 y_c4] 45)) _ := More.trans (by assumption) hb1; have HBw := HB _ HX) | (go_at_call 65; (with_reducible refine (slicesEqual_VecS _ _ x.2.2.2.2 y.2.2.2.2 _ (Ty.at_more FX4.out mC) (Ty.at_more FY4.out mC) HWX4.out HWY4.out).mono ?_); rintro e w1 ⟨rfl, hb1⟩; have HX : More ((w.alloc (.cells #[.int .i64 x.1.1, .int .i64 x.1.2, .int .i64 x.2.1.1, .int .i64 x.2.1.2, .slice x_a2 x_n2 x_c2, .slice x_a3 x_n3 x_c3, .slice x_a4 x_n4 x_c4] 45)).alloc (.cells #[.int .i64 y.1.1, .int .i64 y.1.2, .int .i64 y.2.1.1, .int .i64 y.2.1.2, .slice y_a2 y_n2 y_c2, .slice y_a3 y_n3 y_c3, .slice y_a4 y_n4 y_c4] 45)) _ := More.trans (by assumption) hb1; have HBw := HB _ HX))
    go_ret
    exact ⟨ret_bool (decide_eq_false (fun e => by have h := A4.out; rw [e] at h; simp at h)).symm, mC⟩
  rcases Bool.eq_false_or_eq_true (decide (x.2.2.2.1 = y.2.2.2.1)) with a5 | a5
  rotate_left
  · have A5 := Lib.hid a5
    have HX : More ((w.alloc (.cells #[.int .i64 x.1.1, .int .i64 x.1.2, .int .i64 x.2.1.1, .int .i64 x.2.1.2, .slice x_a2 x_n2 x_c2, .slice x_a3 x_n3 x_c3, .slice x_a4 x_n4 x_c4] 45)).alloc (.cells #[.int .i64 y.1.1, .int .i64 y.1.2, .int .i64 y.2.1.1, .int .i64 y.2.1.2, .slice y_a2 y_n2 y_c2, .slice y_a3 y_n3 y_c3, .slice y_a4 y_n4 y_c4] 45)) ((w.alloc (.cells #[.int .i64 x.1.1, .int .i64 x.1.2, .int .i64 x.2.1.1, .int .i64 x.2.1.2, .slice x_a2 x_n2 x_c2, .slice x_a3 x_n3 x_c3, .slice x_a4 x_n4 x_c4] 45)).alloc (.cells #[.int .i64 y.1.1, .int .i64 y.1.2, .int .i64 y.2.1.1, .int .i64 y.2.1.2, .slice y_a2 y_n2 y_c2, .slice y_a3 y_n3 y_c3, .slice y_a4 y_n4 y_c4] 45)) := More.refl _
    have HB : ∀ w', More ((w.alloc (.cells #[.int .i64 x.1.1, .int .i64 x.1.2, .int .i64 x.2.1.1, .int .i64 x.2.1.2, .slice x_a2 x_n2 x_c2, .slice x_a3 x_n3 x_c3, .slice x_a4 x_n4 x_c4] 45)).alloc (.cells #[.int .i64 y.1.1, .int .i64 y.1.2, .int .i64 y.2.1.1, .int .i64 y.2.1.2, .slice y_a2 y_n2 y_c2, .slice y_a3 y_n3 y_c3, .slice y_a4 y_n4 y_c4] 45)) w' → w'.cell? ⟨w.heap.size, 0, none⟩ = some (.int .i64 x.1.1) ∧ w'.cell? ⟨w.heap.size, 1, none⟩ = some (.int .i64 x.1.2) ∧ w'.cell? ⟨w.heap.size, 2, none⟩ = some (.int .i64 x.2.1.1) ∧ w'.cell? ⟨w.heap.size, 3, none⟩ = some (.int .i64 x.2.1.2) ∧ w'.cell? ⟨w.heap.size, 4, none⟩ = some (.slice x_a2 x_n2 x_c2) ∧ w'.cell? ⟨w.heap.size, 5, none⟩ = some (.slice x_a3 x_n3 x_c3) ∧ w'.cell? ⟨w.heap.size, 6, none⟩ = some (.slice x_a4 x_n4 x_c4) ∧ (∀ j, w'.frozen? ⟨w.heap.size, j, none⟩ = false) ∧ w'.cell? ⟨w.heap.size + 1, 0, none⟩ = some (.int .i64 y.1.1) ∧ w'.cell? ⟨w.heap.size + 1, 1, none⟩ = some (.int .i64 y.1.2) ∧ w'.cell? ⟨w.heap.size + 1, 2, none⟩ = some (.int .i64 y.2.1.1) ∧ w'.cell? ⟨w.heap.size + 1, 3, none⟩ = some (.int .i64 y.2.1.2) ∧ w'.cell? ⟨w.heap.size + 1, 4, none⟩ = some (.slice y_a2 y_n2 y_c2) ∧ w'.cell? ⟨w.heap.size + 1, 5, none⟩ = some (.slice y_a3 y_n3 y_c3) ∧ w'.cell? ⟨w.heap.size + 1, 6, none⟩ = some (.slice y_a4 y_n4 y_c4) ∧ (∀ j, w'.frozen? ⟨w.heap.size + 1, j, none⟩ = false) := fun w' h => ⟨box_new (by simp) (More.un h) 0, box_new (by simp) (More.un h) 1, box_new (by simp) (More.un h) 2, box_new (by simp) (More.un h) 3, box_new (by simp) (More.un h) 4, box_new (by simp) (More.un h) 5, box_new (by simp) (More.un h) 6, fun j => box_free (by simp) (More.un h) j, box_new (by simp) h 0, box_new (by simp) h 1, box_new (by simp) h 2, box_new (by simp) h 3, box_new (by simp) h 4, box_new (by simp) h 5, box_new (by simp) h 6, fun j => box_free (by simp) h j⟩
    go_enter Try.func110, Try.ntmps110
    go_wp2_with (first | (go_at_call 65; (with_reducible refine (slicesEqual_VecS _ _ x.2.2.1 y.2.2.1 _ (Ty.at_more FX2.out mC) (Ty.at_more FY2.out mC) HWX2.out HWY2.out).mono ?_); rintro e w1 ⟨rfl, hb1⟩; have HX : More ((w.alloc (.cells #[.int .i64 x.1.1, .int .i64 x.1.2, .int .i64 x.2.1.1, .int .i64 x.2.1.2, .slice x_a2 x_n2 x_c2, .slice x_a3 x_n3 x_c3, .slice x_a4 x_n4 x_c4] 45)).alloc (.cells #[.int .i64 y.1.1, .int .i64 y.1.2, .int .i64 y.2.1.1, .int .i64 y.2.1.2, .slice y_a2 y_n2 y_c2, .slice y_a3 y_n3 y_c3, .slice y_a4 y_n4 y_c4] 45)) _ := More.trans (by assumption) hb1; have HBw := HB _ HX) | (go_at_call 152; (with_reducible refine (impl_sameAreas _ _ x.2.2.2.1 y.2.2.2.1 _ (Ty.at_more FX3.out mC) (Ty.at_more FY3.out mC) HWX3.out HWY3.out).mono ?_); rintro e w1 ⟨rfl, hb1⟩; have HX : More ((w.alloc (.cells #[.int .i64 x.1.1, .int .i64 x.1.2, .int .i64 x.2.1.1, .int .i64 x.2.1.2, .slice x_a2 x_n2 x_c2, .slice x_a3 x_n3 x_c3, .slice x_a4 x_n4 x_c4] 45)).alloc (.cells #[.int .i64 y.1.1, .int .i64 y.1.2, .int .i64 y.2.1.1, .int .i64 y.2.1.2, .slice y_a2 y_n2 y_c2, .slice y_a3 y_n3 y_c3, .slice y_a4 y_n4 y_c4] 45)) _ := More.trans (by assumption) hb1; have HBw := HB _ HX) | (go_at_call 65; (with_reducible refine (slicesEqual_VecS _ _ x.2.2.2.2 y.2.2.2.2 _ (Ty.at_more FX4.out mC) (Ty.at_more FY4.out mC) HWX4.out HWY4.out).mono ?_); rintro e w1 ⟨rfl, hb1⟩; have HX : More ((w.alloc (.cells #[.int .i64 x.1.1, .int .i64 x.1.2, .int .i64 x.2.1.1, .int .i64 x.2.1.2, .slice x_a2 x_n2 x_c2, .slice x_a3 x_n3 x_c3, .slice x_a4 x_n4 x_c4] 45)).alloc (.cells #[.int .i64 y.1.1, .int .i64 y.1.2, .int .i64 y.2.1.1, .int .i64 y.2.1.2, .slice y_a2 y_n2 y_c2, .slice y_a3 y_n3 y_c3, .slice y_a4 y_n4 y_c4] 45)) _ := More.trans (by assumption) hb1; have HBw := HB _ HX))
    go_ret
    exact ⟨ret_bool (decide_eq_false (fun e => by have h := A5.out; rw [e] at h; simp at h)).symm, mC⟩
  rcases Bool.eq_false_or_eq_true (decide (x.2.2.2.2 = y.2.2.2.2)) with a6 | a6
  rotate_left
  · have A6 := Lib.hid a6
    have HX : More ((w.alloc (.cells #[.int .i64 x.1.1, .int .i64 x.1.2, .int .i64 x.2.1.1, .int .i64 x.2.1.2, .slice x_a2 x_n2 x_c2, .slice x_a3 x_n3 x_c3, .slice x_a4 x_n4 x_c4] 45)).alloc (.cells #[.int .i64 y.1.1, .int .i64 y.1.2, .int .i64 y.2.1.1, .int .i64 y.2.1.2, .slice y_a2 y_n2 y_c2, .slice y_a3 y_n3 y_c3, .slice y_a4 y_n4 y_c4] 45)) ((w.alloc (.cells #[.int .i64 x.1.1, .int .i64 x.1.2, .int .i64 x.2.1.1, .int .i64 x.2.1.2, .slice x_a2 x_n2 x_c2, .slice x_a3 x_n3 x_c3, .slice x_a4 x_n4 x_c4] 45)).alloc (.cells #[.int .i64 y.1.1, .int .i64 y.1.2, .int .i64 y.2.1.1, .int .i64 y.2.1.2, .slice y_a2 y_n2 y_c2, .slice y_a3 y_n3 y_c3, .slice y_a4 y_n4 y_c4] 45)) := More.refl _
    have HB : ∀ w', More ((w.alloc (.cells #[.int .i64 x.1.1, .int .i64 x.1.2, .int .i64 x.2.1.1, .int .i64 x.2.1.2, .slice x_a2 x_n2 x_c2, .slice x_a3 x_n3 x_c3, .slice x_a4 x_n4 x_c4] 45)).alloc (.cells #[.int .i64 y.1.1, .int .i64 y.1.2, .int .i64 y.2.1.1, .int .i64 y.2.1.2, .slice y_a2 y_n2 y_c2, .slice y_a3 y_n3 y_c3, .slice y_a4 y_n4 y_c4] 45)) w' → w'.cell? ⟨w.heap.size, 0, none⟩ = some (.int .i64 x.1.1) ∧ w'.cell? ⟨w.heap.size, 1, none⟩ = some (.int .i64 x.1.2) ∧ w'.cell? ⟨w.heap.size, 2, none⟩ = some (.int .i64 x.2.1.1) ∧ w'.cell? ⟨w.heap.size, 3, none⟩ = some (.int .i64 x.2.1.2) ∧ w'.cell? ⟨w.heap.size, 4, none⟩ = some (.slice x_a2 x_n2 x_c2) ∧ w'.cell? ⟨w.heap.size, 5, none⟩ = some (.slice x_a3 x_n3 x_c3) ∧ w'.cell? ⟨w.heap.size, 6, none⟩ = some (.slice x_a4 x_n4 x_c4) ∧ (∀ j, w'.frozen? ⟨w.heap.size, j, none⟩ = false) ∧ w'.cell? ⟨w.heap.size + 1, 0, none⟩ = some (.int .i64 y.1.1) ∧ w'.cell? ⟨w.heap.size + 1, 1, none⟩ = some (.int .i64 y.1.2) ∧ w'.cell? ⟨w.heap.size + 1, 2, none⟩ = some (.int .i64 y.2.1.1) ∧ w'.cell? ⟨w.heap.size + 1, 3, none⟩ = some (.int .i64 y.2.1.2) ∧ w'.cell? ⟨w.heap.size + 1, 4, none⟩ = some (.slice y_a2 y_n2 y_c2) ∧ w'.cell? ⟨w.heap.size + 1, 5, none⟩ = some (.slice y_a3 y_n3 y_c3) ∧ w'.cell? ⟨w.heap.size + 1, 6, none⟩ = some (.slice y_a4 y_n4 y_c4) ∧ (∀ j, w'.frozen? ⟨w.heap.size + 1, j, none⟩ = false) := fun w' h => ⟨box_new (by simp) (More.un h) 0, box_new (by simp) (More.un h) 1, box_new (by simp) (More.un h) 2, box_new (by simp) (More.un h) 3, box_new (by simp) (More.un h) 4, box_new (by simp) (More.un h) 5, box_new (by simp) (More.un h) 6, fun j => box_free (by simp) (More.un h) j, box_new (by simp) h 0, box_new (by simp) h 1, box_new (by simp) h 2, box_new (by simp) h 3, box_new (by simp) h 4, box_new (by simp) h 5, box_new (by simp) h 6, fun j => box_free (by simp) h j⟩
    go_enter Try.func110, Try.ntmps110
    go_wp2_with (first | (go_at_call 65; (with_reducible refine (slicesEqual_VecS _ _ x.2.2.1 y.2.2.1 _ (Ty.at_more FX2.out mC) (Ty.at_more FY2.out mC) HWX2.out HWY2.out).mono ?_); rintro e w1 ⟨rfl, hb1⟩; have HX : More ((w.alloc (.cells #[.int .i64 x.1.1, .int .i64 x.1.2, .int .i64 x.2.1.1, .int .i64 x.2.1.2, .slice x_a2 x_n2 x_c2, .slice x_a3 x_n3 x_c3, .slice x_a4 x_n4 x_c4] 45)).alloc (.cells #[.int .i64 y.1.1, .int .i64 y.1.2, .int .i64 y.2.1.1, .int .i64 y.2.1.2, .slice y_a2 y_n2 y_c2, .slice y_a3 y_n3 y_c3, .slice y_a4 y_n4 y_c4] 45)) _ := More.trans (by assumption) hb1; have HBw := HB _ HX) | (go_at_call 152; (with_reducible refine (impl_sameAreas _ _ x.2.2.2.1 y.2.2.2.1 _ (Ty.at_more FX3.out mC) (Ty.at_more FY3.out mC) HWX3.out HWY3.out).mono ?_); rintro e w1 ⟨rfl, hb1⟩; have HX : More ((w.alloc (.cells #[.int .i64 x.1.1, .int .i64 x.1.2, .int .i64 x.2.1.1, .int .i64 x.2.1.2, .slice x_a2 x_n2 x_c2, .slice x_a3 x_n3 x_c3, .slice x_a4 x_n4 x_c4] 45)).alloc (.cells #[.int .i64 y.1.1, .int .i64 y.1.2, .int .i64 y.2.1.1, .int .i64 y.2.1.2, .slice y_a2 y_n2 y_c2, .slice y_a3 y_n3 y_c3, .slice y_a4 y_n4 y_c4] 45)) _ := More.trans (by assumption) hb1; have HBw := HB _ HX) | (go_at_call 65; (with_reducible refine (slicesEqual_VecS _ _ x.2.2.2.2 y.2.2.2.2 _ (Ty.at_more FX4.out mC) (Ty.at_more FY4.out mC) HWX4.out HWY4.out).mono ?_); rintro e w1 ⟨rfl, hb1⟩; have HX : More ((w.alloc (.cells #[.int .i64 x.1.1, .int .i64 x.1.2, .int .i64 x.2.1.1, .int .i64 x.2.1.2, .slice x_a2 x_n2 x_c2, .slice x_a3 x_n3 x_c3, .slice x_a4 x_n4 x_c4] 45)).alloc (.cells #[.int .i64 y.1.1, .int .i64 y.1.2, .int .i64 y.2.1.1, .int .i64 y.2.1.2, .slice y_a2 y_n2 y_c2, .slice y_a3 y_n3 y_c3, .slice y_a4 y_n4 y_c4] 45)) _ := More.trans (by assumption) hb1; have HBw := HB _ HX))
    go_ret
    exact ⟨ret_bool (decide_eq_false (fun e => by have h := A6.out; rw [e] at h; simp at h)).symm, mC⟩
  have EQ : Hid (x = y) := Lib.hid (Prod.ext (Prod.ext (eq_of_beq a0) (eq_of_beq a1)) (Prod.ext (Prod.ext (eq_of_beq a2) (eq_of_beq a3)) (Prod.ext (of_decide_eq_true a4) (Prod.ext (of_decide_eq_true a5) (of_decide_eq_true a6)))))
  have HX : More ((w.alloc (.cells #[.int .i64 x.1.1, .int .i64 x.1.2, .int .i64 x.2.1.1, .int .i64 x.2.1.2, .slice x_a2 x_n2 x_c2, .slice x_a3 x_n3 x_c3, .slice x_a4 x_n4 x_c4] 45)).alloc (.cells #[.int .i64 y.1.1, .int .i64 y.1.2, .int .i64 y.2.1.1, .int .i64 y.2.1.2, .slice y_a2 y_n2 y_c2, .slice y_a3 y_n3 y_c3, .slice y_a4 y_n4 y_c4] 45)) ((w.alloc (.cells #[.int .i64 x.1.1, .int .i64 x.1.2, .int .i64 x.2.1.1, .int .i64 x.2.1.2, .slice x_a2 x_n2 x_c2, .slice x_a3 x_n3 x_c3, .slice x_a4 x_n4 x_c4] 45)).alloc (.cells #[.int .i64 y.1.1, .int .i64 y.1.2, .int .i64 y.2.1.1, .int .i64 y.2.1.2, .slice y_a2 y_n2 y_c2, .slice y_a3 y_n3 y_c3, .slice y_a4 y_n4 y_c4] 45)) := More.refl _
  have HB : ∀ w', More ((w.alloc (.cells #[.int .i64 x.1.1, .int .i64 x.1.2, .int .i64 x.2.1.1, .int .i64 x.2.1.2, .slice x_a2 x_n2 x_c2, .slice x_a3 x_n3 x_c3, .slice x_a4 x_n4 x_c4] 45)).alloc (.cells #[.int .i64 y.1.1, .int .i64 y.1.2, .int .i64 y.2.1.1, .int .i64 y.2.1.2, .slice y_a2 y_n2 y_c2, .slice y_a3 y_n3 y_c3, .slice y_a4 y_n4 y_c4] 45)) w' → w'.cell? ⟨w.heap.size, 0, none⟩ = some (.int .i64 x.1.1) ∧ w'.cell? ⟨w.heap.size, 1, none⟩ = some (.int .i64 x.1.2) ∧ w'.cell? ⟨w.heap.size, 2, none⟩ = some (.int .i64 x.2.1.1) ∧ w'.cell? ⟨w.heap.size, 3, none⟩ = some (.int .i64 x.2.1.2) ∧ w'.cell? ⟨w.heap.size, 4, none⟩ = some (.slice x_a2 x_n2 x_c2) ∧ w'.cell? ⟨w.heap.size, 5, none⟩ = some (.slice x_a3 x_n3 x_c3) ∧ w'.cell? ⟨w.heap.size, 6, none⟩ = some (.slice x_a4 x_n4 x_c4) ∧ (∀ j, w'.frozen? ⟨w.heap.size, j, none⟩ = false) ∧ w'.cell? ⟨w.heap.size + 1, 0, none⟩ = some (.int .i64 y.1.1) ∧ w'.cell? ⟨w.heap.size + 1, 1, none⟩ = some (.int .i64 y.1.2) ∧ w'.cell? ⟨w.heap.size + 1, 2, none⟩ = some (.int .i64 y.2.1.1) ∧ w'.cell? ⟨w.heap.size + 1, 3, none⟩ = some (.int .i64 y.2.1.2) ∧ w'.cell? ⟨w.heap.size + 1, 4, none⟩ = some (.slice y_a2 y_n2 y_c2) ∧ w'.cell? ⟨w.heap.size + 1, 5, none⟩ = some (.slice y_a3 y_n3 y_c3) ∧ w'.cell? ⟨w.heap.size + 1, 6, none⟩ = some (.slice y_a4 y_n4 y_c4) ∧ (∀ j, w'.frozen? ⟨w.heap.size + 1, j, none⟩ = false) := fun w' h => ⟨box_new (by simp) (More.un h) 0, box_new (by simp) (More.un h) 1, box_new (by simp) (More.un h) 2, box_new (by simp) (More.un h) 3, box_new (by simp) (More.un h) 4, box_new (by simp) (More.un h) 5, box_new (by simp) (More.un h) 6, fun j => box_free (by simp) (More.un h) j, box_new (by simp) h 0, box_new (by simp) h 1, box_new (by simp) h 2, box_new (by simp) h 3, box_new (by simp) h 4, box_new (by simp) h 5, box_new (by simp) h 6, fun j => box_free (by simp) h j⟩
  go_enter Try.func110, Try.ntmps110
  go_wp2_with (first | (go_at_call 65; (with_reducible refine (slicesEqual_VecS _ _ x.2.2.1 y.2.2.1 _ (Ty.at_more FX2.out mC) (Ty.at_more FY2.out mC) HWX2.out HWY2.out).mono ?_); rintro e w1 ⟨rfl, hb1⟩; have HX : More ((w.alloc (.cells #[.int .i64 x.1.1, .int .i64 x.1.2, .int .i64 x.2.1.1, .int .i64 x.2.1.2, .slice x_a2 x_n2 x_c2, .slice x_a3 x_n3 x_c3, .slice x_a4 x_n4 x_c4] 45)).alloc (.cells #[.int .i64 y.1.1, .int .i64 y.1.2, .int .i64 y.2.1.1, .int .i64 y.2.1.2, .slice y_a2 y_n2 y_c2, .slice y_a3 y_n3 y_c3, .slice y_a4 y_n4 y_c4] 45)) _ := More.trans (by assumption) hb1; have HBw := HB _ HX) | (go_at_call 152; (with_reducible refine (impl_sameAreas _ _ x.2.2.2.1 y.2.2.2.1 _ (Ty.at_more FX3.out mC) (Ty.at_more FY3.out mC) HWX3.out HWY3.out).mono ?_); rintro e w1 ⟨rfl, hb1⟩; have HX : More ((w.alloc (.cells #[.int .i64 x.1.1, .int .i64 x.1.2, .int .i64 x.2.1.1, .int .i64 x.2.1.2, .slice x_a2 x_n2 x_c2, .slice x_a3 x_n3 x_c3, .slice x_a4 x_n4 x_c4] 45)).alloc (.cells #[.int .i64 y.1.1, .int .i64 y.1.2, .int .i64 y.2.1.1, .int .i64 y.2.1.2, .slice y_a2 y_n2 y_c2, .slice y_a3 y_n3 y_c3, .slice y_a4 y_n4 y_c4] 45)) _ := More.trans (by assumption) hb1; have HBw := HB _ HX) | (go_at_call 65; (with_reducible refine (slicesEqual_VecS _ _ x.2.2.2.2 y.2.2.2.2 _ (Ty.at_more FX4.out mC) (Ty.at_more FY4.out mC) HWX4.out HWY4.out).mono ?_); rintro e w1 ⟨rfl, hb1⟩; have HX : More ((w.alloc (.cells #[.int .i64 x.1.1, .int .i64 x.1.2, .int .i64 x.2.1.1, .int .i64 x.2.1.2, .slice x_a2 x_n2 x_c2, .slice x_a3 x_n3 x_c3, .slice x_a4 x_n4 x_c4] 45)).alloc (.cells #[.int .i64 y.1.1, .int .i64 y.1.2, .int .i64 y.2.1.1, .int .i64 y.2.1.2, .slice y_a2 y_n2 y_c2, .slice y_a3 y_n3 y_c3, .slice y_a4 y_n4 y_c4] 45)) _ := More.trans (by assumption) hb1; have HBw := HB _ HX))
  go_ret
  exact ⟨ret_bool (decide_eq_true EQ.out).symm, mC⟩
end Go.Proofs.Ytbbibfeblaocfaa
