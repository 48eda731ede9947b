/- Several texts laid together; each has its own word at its head. -/
import Derived.Test.YtnbefpfijaimjaaGreatDoorGBase
import Derived.Test.YtnbefpfijaimjaaGreatDoorGVec
import Derived.Deep.RegionHeld3
import Derived.Deep.QuietTactic
import Derived.BigQuiet
import Derived.Laws.StructEq
import Derived.Deep.MidRow
/- Equality of lists of vectors and of lists of integers. -/
namespace Go.Proofs.YtnbefpfijaimjaaGreatDoor
open Go.RowKit
theorem el_ext {α : Type} {l m : List α} {n : Nat} (hl : l.length = n) (hm : m.length = n) (h : ∀ j, j < n → l[j]? = m[j]?) : l = m := by
  apply List.ext_getElem?
  intro i
  by_cases hi : i < n
  · exact h i hi
  · rw [List.getElem?_eq_none (by omega), List.getElem?_eq_none (by omega)]
set_option maxHeartbeats 3200000 in
theorem slicesEqual_IntS (v v' : Value) (l m : List Int) (w : World) (hv : tInts.at w [v] l) (hv' : tInts.at w [v'] m) (hl : l.length ≤ 1048576) (hm : m.length ≤ 1048576) :
    Calls Tryz.prog 38 #[v, v'] w fun e w' => e = .returned (.bool (decide (l = m))) ∧ More w w' := by
  obtain ⟨ao, cap, rfl⟩ := sl_len hv
  obtain ⟨ao', cap', rfl⟩ := sl_len hv'
  have HV := Lib.hid hv; clear hv
  have HV' := Lib.hid hv'; clear hv'
  skip
  obtain ⟨n, hn⟩ : ∃ n, n = l.length := ⟨_, rfl⟩
  obtain ⟨n', hn'⟩ : ∃ n', n' = m.length := ⟨_, rfl⟩
  rw [← hn] at HV hl ⊢
  rw [← hn'] at HV' hm ⊢
  have HN := Lib.hid hn; have HN' := Lib.hid hn'; clear hn hn'
  by_cases hne : n = n'
  · subst hne
    go_enter Tryz.func38, Tryz.ntmps38
    go_wp2_with fail
    go_loopw [13] (fun i wr => ∃ k : Nat, k ≤ n ∧ i = .int .i64 k ∧ More w wr ∧ Hid (∀ j, j < k → l[j]? = m[j]?)) (fun i _ => n - (intOf i).toNat)
    case atStart => exact ⟨0, Nat.zero_le _, rfl, More.refl _, Lib.hid (fun j hj => by omega)⟩
    case round =>
      obtain ⟨k, hk, rfl, hmr, HE⟩ := hrel
      by_cases hlt : k < n
      · obtain ⟨b, off, x, rfl, hblt, hx, -, c0⟩ := int_el (Ty.at_more HV.out hmr) (k := k) (by rw [← HN.out]; exact hlt)
        obtain ⟨b', off', y, rfl, hblt', hy, -, d0⟩ := int_el (Ty.at_more HV'.out hmr) (k := k) (by rw [← HN'.out]; exact hlt)
        have HX := Lib.hid hx; have HX' := Lib.hid hy; clear hx hy
        skip
        have hi0 : (0 : Int) ≤ (k : Int) := by omega
        have hi1 : (k : Int) < (n : Int) := by omega
        have nb : b ≠ wr.heap.size := by omega
        have nb' : b' ≠ wr.heap.size := by omega
        rcases Bool.eq_false_or_eq_true (x == y) with a0 | a0
        rotate_left
        · have A0 := Lib.hid a0
          go_wp2_with fail
          go_quiet (fail)
          go_wp2_with fail
          go_ret
          exact ⟨ret_bool (decide_eq_false (fun e => by
            have h1 := HX.out; have h2 := HX'.out
            rw [e, h2] at h1
            obtain rfl := Option.some.inj h1
            simp at a0)).symm, mC⟩
        have EQ : Hid (x = y) := Lib.hid (eq_of_beq a0)
        go_wp2_with fail
        go_quiet (fail)
        go_wp2_with fail
        go_roundw
        case rel => exact ⟨k + 1, by omega, by go_num, mC, Lib.hid (fun j hj => by
          rcases Nat.lt_succ_iff_lt_or_eq.1 hj with h | rfl
          · exact HE.out j h
          · rw [HX.out, HX'.out, EQ.out])⟩
        case measure => simp [intOf]; omega
      · go_wp2_with fail
        go_ret
        obtain rfl : k = n := by omega
        exact ⟨ret_bool (decide_eq_true (el_ext HN.out.symm HN'.out.symm HE.out)).symm, hmr⟩
  · have hne' : ((n : Int) != (n' : Int)) = true := by simp; omega
    go_enter Tryz.func38, Tryz.ntmps38
    go_wp2_with fail
    go_ret
    exact ⟨ret_bool (decide_eq_false (fun e => hne (by rw [HN.out, HN'.out, e]))).symm, More.refl _⟩
end Go.Proofs.YtnbefpfijaimjaaGreatDoor
/- Equality of fractions. -/
namespace Go.Proofs.YtnbefpfijaimjaaGreatDoor
open Go.RowKit
set_option maxHeartbeats 3200000 in
theorem impl_RatEqual (cs ds : List Value) (x y : QR) (w : World) (hv : tRat.at w cs x) (hv' : tRat.at w ds y) (hw : wRat x ≤ 1048576) (hw' : wRat y ≤ 1048576) :
    Calls Tryz.prog 18 #[.agg cs.toArray, .agg ds.toArray] w fun e w' => e = .returned (.bool (decide (x = y))) ∧ More w w' := by
  obtain ⟨x_k0, x_d0, rfl, x_f0, x_e0⟩ := at_prod hv
  have x_f1 := x_e0
  obtain ⟨x_0k0, x_0d0, rfl, x_0f0, x_0e0⟩ := at_prod x_f0
  have x_0f1 := x_0e0
  obtain rfl := sh_bool x_0f0
  obtain ⟨x_0a1, x_0n1, x_0c1, rfl⟩ := sh_slice x_0f1
  obtain ⟨x_a1, x_n1, x_c1, rfl⟩ := sh_slice x_f1
  obtain ⟨y_k0, y_d0, rfl, y_f0, y_e0⟩ := at_prod hv'
  have y_f1 := y_e0
  obtain ⟨y_0k0, y_0d0, rfl, y_0f0, y_0e0⟩ := at_prod y_f0
  have y_0f1 := y_0e0
  obtain rfl := sh_bool y_0f0
  obtain ⟨y_0a1, y_0n1, y_0c1, rfl⟩ := sh_slice y_0f1
  obtain ⟨y_a1, y_n1, y_c1, rfl⟩ := sh_slice y_f1
  have FX1 := Lib.hid x_0f1; have FY1 := Lib.hid y_0f1
  have HWX1 : Hid (x.1.2.length ≤ 1048576) := Lib.hid (show wIntS x.1.2 ≤ 1048576 by have := hw; unfold wRat wBigInt at this; omega)
  have HWY1 : Hid (y.1.2.length ≤ 1048576) := Lib.hid (show wIntS y.1.2 ≤ 1048576 by have := hw'; unfold wRat wBigInt at this; omega)
  have FX2 := Lib.hid x_f1; have FY2 := Lib.hid y_f1
  have HWX2 : Hid (x.2.length ≤ 1048576) := Lib.hid (show wIntS x.2 ≤ 1048576 by have := hw; unfold wRat at this; omega)
  have HWY2 : Hid (y.2.length ≤ 1048576) := Lib.hid (show wIntS y.2 ≤ 1048576 by have := hw'; unfold wRat at this; omega)
  clear hw hw'
  try clear x_0e0
  try clear x_0f0
  try clear x_0f1
  try clear x_e0
  try clear x_f0
  try clear x_f1
  try clear y_0e0
  try clear y_0f0
  try clear y_0f1
  try clear y_e0
  try clear y_f0
  try clear y_f1
  try clear hv
  try clear hv'
  show Calls Tryz.prog 18 #[.agg #[.bool x.1.1, .slice x_0a1 x_0n1 x_0c1, .slice x_a1 x_n1 x_c1], .agg #[.bool y.1.1, .slice y_0a1 y_0n1 y_0c1, .slice y_a1 y_n1 y_c1]] w _
  rcases Bool.eq_false_or_eq_true (x.1.1 == y.1.1) with a0 | a0
  rotate_left
  · have A0 := Lib.hid a0
    have HX : More ((w.alloc (.cells #[.bool x.1.1, .slice x_0a1 x_0n1 x_0c1, .slice x_a1 x_n1 x_c1] 26)).alloc (.cells #[.bool y.1.1, .slice y_0a1 y_0n1 y_0c1, .slice y_a1 y_n1 y_c1] 26)) ((w.alloc (.cells #[.bool x.1.1, .slice x_0a1 x_0n1 x_0c1, .slice x_a1 x_n1 x_c1] 26)).alloc (.cells #[.bool y.1.1, .slice y_0a1 y_0n1 y_0c1, .slice y_a1 y_n1 y_c1] 26)) := More.refl _
    have HB : ∀ w', More ((w.alloc (.cells #[.bool x.1.1, .slice x_0a1 x_0n1 x_0c1, .slice x_a1 x_n1 x_c1] 26)).alloc (.cells #[.bool y.1.1, .slice y_0a1 y_0n1 y_0c1, .slice y_a1 y_n1 y_c1] 26)) w' → w'.cell? ⟨w.heap.size, 0, none⟩ = some (.bool x.1.1) ∧ w'.cell? ⟨w.heap.size, 1, none⟩ = some (.slice x_0a1 x_0n1 x_0c1) ∧ w'.cell? ⟨w.heap.size, 2, none⟩ = some (.slice x_a1 x_n1 x_c1) ∧ (∀ j, w'.frozen? ⟨w.heap.size, j, none⟩ = false) ∧ w'.cell? ⟨w.heap.size + 1, 0, none⟩ = some (.bool y.1.1) ∧ w'.cell? ⟨w.heap.size + 1, 1, none⟩ = some (.slice y_0a1 y_0n1 y_0c1) ∧ w'.cell? ⟨w.heap.size + 1, 2, none⟩ = some (.slice y_a1 y_n1 y_c1) ∧ (∀ j, w'.frozen? ⟨w.heap.size + 1, j, none⟩ = false) := fun w' h => ⟨box_new (by simp) (More.un h) 0, box_new (by simp) (More.un h) 1, box_new (by simp) (More.un h) 2, fun j => box_free (by simp) (More.un h) j, box_new (by simp) h 0, box_new (by simp) h 1, box_new (by simp) h 2, fun j => box_free (by simp) h j⟩
    go_enter Tryz.func18, Tryz.ntmps18
    go_wp2_with (first | (go_at_call 38; (with_reducible refine (slicesEqual_IntS _ _ x.1.2 y.1.2 _ (Ty.at_more FX1.out mC) (Ty.at_more FY1.out mC) HWX1.out HWY1.out).mono ?_); rintro e w1 ⟨rfl, hb1⟩; have HX : More ((w.alloc (.cells #[.bool x.1.1, .slice x_0a1 x_0n1 x_0c1, .slice x_a1 x_n1 x_c1] 26)).alloc (.cells #[.bool y.1.1, .slice y_0a1 y_0n1 y_0c1, .slice y_a1 y_n1 y_c1] 26)) _ := More.trans (by assumption) hb1; have HBw := HB _ HX) | (go_at_call 38; (with_reducible refine (slicesEqual_IntS _ _ x.2 y.2 _ (Ty.at_more FX2.out mC) (Ty.at_more FY2.out mC) HWX2.out HWY2.out).mono ?_); rintro e w1 ⟨rfl, hb1⟩; have HX : More ((w.alloc (.cells #[.bool x.1.1, .slice x_0a1 x_0n1 x_0c1, .slice x_a1 x_n1 x_c1] 26)).alloc (.cells #[.bool y.1.1, .slice y_0a1 y_0n1 y_0c1, .slice y_a1 y_n1 y_c1] 26)) _ := More.trans (by assumption) hb1; have HBw := HB _ HX))
    go_ret
    exact ⟨ret_bool (decide_eq_false (fun e => by have h := A0.out; rw [e] at h; simp at h)).symm, mC⟩
  rcases Bool.eq_false_or_eq_true (decide (x.1.2 = y.1.2)) with a1 | a1
  rotate_left
  · have A1 := Lib.hid a1
    have HX : More ((w.alloc (.cells #[.bool x.1.1, .slice x_0a1 x_0n1 x_0c1, .slice x_a1 x_n1 x_c1] 26)).alloc (.cells #[.bool y.1.1, .slice y_0a1 y_0n1 y_0c1, .slice y_a1 y_n1 y_c1] 26)) ((w.alloc (.cells #[.bool x.1.1, .slice x_0a1 x_0n1 x_0c1, .slice x_a1 x_n1 x_c1] 26)).alloc (.cells #[.bool y.1.1, .slice y_0a1 y_0n1 y_0c1, .slice y_a1 y_n1 y_c1] 26)) := More.refl _
    have HB : ∀ w', More ((w.alloc (.cells #[.bool x.1.1, .slice x_0a1 x_0n1 x_0c1, .slice x_a1 x_n1 x_c1] 26)).alloc (.cells #[.bool y.1.1, .slice y_0a1 y_0n1 y_0c1, .slice y_a1 y_n1 y_c1] 26)) w' → w'.cell? ⟨w.heap.size, 0, none⟩ = some (.bool x.1.1) ∧ w'.cell? ⟨w.heap.size, 1, none⟩ = some (.slice x_0a1 x_0n1 x_0c1) ∧ w'.cell? ⟨w.heap.size, 2, none⟩ = some (.slice x_a1 x_n1 x_c1) ∧ (∀ j, w'.frozen? ⟨w.heap.size, j, none⟩ = false) ∧ w'.cell? ⟨w.heap.size + 1, 0, none⟩ = some (.bool y.1.1) ∧ w'.cell? ⟨w.heap.size + 1, 1, none⟩ = some (.slice y_0a1 y_0n1 y_0c1) ∧ w'.cell? ⟨w.heap.size + 1, 2, none⟩ = some (.slice y_a1 y_n1 y_c1) ∧ (∀ j, w'.frozen? ⟨w.heap.size + 1, j, none⟩ = false) := fun w' h => ⟨box_new (by simp) (More.un h) 0, box_new (by simp) (More.un h) 1, box_new (by simp) (More.un h) 2, fun j => box_free (by simp) (More.un h) j, box_new (by simp) h 0, box_new (by simp) h 1, box_new (by simp) h 2, fun j => box_free (by simp) h j⟩
    go_enter Tryz.func18, Tryz.ntmps18
    go_wp2_with (first | (go_at_call 38; (with_reducible refine (slicesEqual_IntS _ _ x.1.2 y.1.2 _ (Ty.at_more FX1.out mC) (Ty.at_more FY1.out mC) HWX1.out HWY1.out).mono ?_); rintro e w1 ⟨rfl, hb1⟩; have HX : More ((w.alloc (.cells #[.bool x.1.1, .slice x_0a1 x_0n1 x_0c1, .slice x_a1 x_n1 x_c1] 26)).alloc (.cells #[.bool y.1.1, .slice y_0a1 y_0n1 y_0c1, .slice y_a1 y_n1 y_c1] 26)) _ := More.trans (by assumption) hb1; have HBw := HB _ HX) | (go_at_call 38; (with_reducible refine (slicesEqual_IntS _ _ x.2 y.2 _ (Ty.at_more FX2.out mC) (Ty.at_more FY2.out mC) HWX2.out HWY2.out).mono ?_); rintro e w1 ⟨rfl, hb1⟩; have HX : More ((w.alloc (.cells #[.bool x.1.1, .slice x_0a1 x_0n1 x_0c1, .slice x_a1 x_n1 x_c1] 26)).alloc (.cells #[.bool y.1.1, .slice y_0a1 y_0n1 y_0c1, .slice y_a1 y_n1 y_c1] 26)) _ := More.trans (by assumption) hb1; have HBw := HB _ HX))
    go_ret
    exact ⟨ret_bool (decide_eq_false (fun e => by have h := A1.out; rw [e] at h; simp at h)).symm, mC⟩
  rcases Bool.eq_false_or_eq_true (decide (x.2 = y.2)) with a2 | a2
  rotate_left
  · have A2 := Lib.hid a2
    have HX : More ((w.alloc (.cells #[.bool x.1.1, .slice x_0a1 x_0n1 x_0c1, .slice x_a1 x_n1 x_c1] 26)).alloc (.cells #[.bool y.1.1, .slice y_0a1 y_0n1 y_0c1, .slice y_a1 y_n1 y_c1] 26)) ((w.alloc (.cells #[.bool x.1.1, .slice x_0a1 x_0n1 x_0c1, .slice x_a1 x_n1 x_c1] 26)).alloc (.cells #[.bool y.1.1, .slice y_0a1 y_0n1 y_0c1, .slice y_a1 y_n1 y_c1] 26)) := More.refl _
    have HB : ∀ w', More ((w.alloc (.cells #[.bool x.1.1, .slice x_0a1 x_0n1 x_0c1, .slice x_a1 x_n1 x_c1] 26)).alloc (.cells #[.bool y.1.1, .slice y_0a1 y_0n1 y_0c1, .slice y_a1 y_n1 y_c1] 26)) w' → w'.cell? ⟨w.heap.size, 0, none⟩ = some (.bool x.1.1) ∧ w'.cell? ⟨w.heap.size, 1, none⟩ = some (.slice x_0a1 x_0n1 x_0c1) ∧ w'.cell? ⟨w.heap.size, 2, none⟩ = some (.slice x_a1 x_n1 x_c1) ∧ (∀ j, w'.frozen? ⟨w.heap.size, j, none⟩ = false) ∧ w'.cell? ⟨w.heap.size + 1, 0, none⟩ = some (.bool y.1.1) ∧ w'.cell? ⟨w.heap.size + 1, 1, none⟩ = some (.slice y_0a1 y_0n1 y_0c1) ∧ w'.cell? ⟨w.heap.size + 1, 2, none⟩ = some (.slice y_a1 y_n1 y_c1) ∧ (∀ j, w'.frozen? ⟨w.heap.size + 1, j, none⟩ = false) := fun w' h => ⟨box_new (by simp) (More.un h) 0, box_new (by simp) (More.un h) 1, box_new (by simp) (More.un h) 2, fun j => box_free (by simp) (More.un h) j, box_new (by simp) h 0, box_new (by simp) h 1, box_new (by simp) h 2, fun j => box_free (by simp) h j⟩
    go_enter Tryz.func18, Tryz.ntmps18
    go_wp2_with (first | (go_at_call 38; (with_reducible refine (slicesEqual_IntS _ _ x.1.2 y.1.2 _ (Ty.at_more FX1.out mC) (Ty.at_more FY1.out mC) HWX1.out HWY1.out).mono ?_); rintro e w1 ⟨rfl, hb1⟩; have HX : More ((w.alloc (.cells #[.bool x.1.1, .slice x_0a1 x_0n1 x_0c1, .slice x_a1 x_n1 x_c1] 26)).alloc (.cells #[.bool y.1.1, .slice y_0a1 y_0n1 y_0c1, .slice y_a1 y_n1 y_c1] 26)) _ := More.trans (by assumption) hb1; have HBw := HB _ HX) | (go_at_call 38; (with_reducible refine (slicesEqual_IntS _ _ x.2 y.2 _ (Ty.at_more FX2.out mC) (Ty.at_more FY2.out mC) HWX2.out HWY2.out).mono ?_); rintro e w1 ⟨rfl, hb1⟩; have HX : More ((w.alloc (.cells #[.bool x.1.1, .slice x_0a1 x_0n1 x_0c1, .slice x_a1 x_n1 x_c1] 26)).alloc (.cells #[.bool y.1.1, .slice y_0a1 y_0n1 y_0c1, .slice y_a1 y_n1 y_c1] 26)) _ := More.trans (by assumption) hb1; have HBw := HB _ HX))
    go_ret
    exact ⟨ret_bool (decide_eq_false (fun e => by have h := A2.out; rw [e] at h; simp at h)).symm, mC⟩
  have EQ : Hid (x = y) := Lib.hid (Prod.ext (Prod.ext (eq_of_beq a0) (of_decide_eq_true a1)) (of_decide_eq_true a2))
  have HX : More ((w.alloc (.cells #[.bool x.1.1, .slice x_0a1 x_0n1 x_0c1, .slice x_a1 x_n1 x_c1] 26)).alloc (.cells #[.bool y.1.1, .slice y_0a1 y_0n1 y_0c1, .slice y_a1 y_n1 y_c1] 26)) ((w.alloc (.cells #[.bool x.1.1, .slice x_0a1 x_0n1 x_0c1, .slice x_a1 x_n1 x_c1] 26)).alloc (.cells #[.bool y.1.1, .slice y_0a1 y_0n1 y_0c1, .slice y_a1 y_n1 y_c1] 26)) := More.refl _
  have HB : ∀ w', More ((w.alloc (.cells #[.bool x.1.1, .slice x_0a1 x_0n1 x_0c1, .slice x_a1 x_n1 x_c1] 26)).alloc (.cells #[.bool y.1.1, .slice y_0a1 y_0n1 y_0c1, .slice y_a1 y_n1 y_c1] 26)) w' → w'.cell? ⟨w.heap.size, 0, none⟩ = some (.bool x.1.1) ∧ w'.cell? ⟨w.heap.size, 1, none⟩ = some (.slice x_0a1 x_0n1 x_0c1) ∧ w'.cell? ⟨w.heap.size, 2, none⟩ = some (.slice x_a1 x_n1 x_c1) ∧ (∀ j, w'.frozen? ⟨w.heap.size, j, none⟩ = false) ∧ w'.cell? ⟨w.heap.size + 1, 0, none⟩ = some (.bool y.1.1) ∧ w'.cell? ⟨w.heap.size + 1, 1, none⟩ = some (.slice y_0a1 y_0n1 y_0c1) ∧ w'.cell? ⟨w.heap.size + 1, 2, none⟩ = some (.slice y_a1 y_n1 y_c1) ∧ (∀ j, w'.frozen? ⟨w.heap.size + 1, j, none⟩ = false) := fun w' h => ⟨box_new (by simp) (More.un h) 0, box_new (by simp) (More.un h) 1, box_new (by simp) (More.un h) 2, fun j => box_free (by simp) (More.un h) j, box_new (by simp) h 0, box_new (by simp) h 1, box_new (by simp) h 2, fun j => box_free (by simp) h j⟩
  go_enter Tryz.func18, Tryz.ntmps18
  go_wp2_with (first | (go_at_call 38; (with_reducible refine (slicesEqual_IntS _ _ x.1.2 y.1.2 _ (Ty.at_more FX1.out mC) (Ty.at_more FY1.out mC) HWX1.out HWY1.out).mono ?_); rintro e w1 ⟨rfl, hb1⟩; have HX : More ((w.alloc (.cells #[.bool x.1.1, .slice x_0a1 x_0n1 x_0c1, .slice x_a1 x_n1 x_c1] 26)).alloc (.cells #[.bool y.1.1, .slice y_0a1 y_0n1 y_0c1, .slice y_a1 y_n1 y_c1] 26)) _ := More.trans (by assumption) hb1; have HBw := HB _ HX) | (go_at_call 38; (with_reducible refine (slicesEqual_IntS _ _ x.2 y.2 _ (Ty.at_more FX2.out mC) (Ty.at_more FY2.out mC) HWX2.out HWY2.out).mono ?_); rintro e w1 ⟨rfl, hb1⟩; have HX : More ((w.alloc (.cells #[.bool x.1.1, .slice x_0a1 x_0n1 x_0c1, .slice x_a1 x_n1 x_c1] 26)).alloc (.cells #[.bool y.1.1, .slice y_0a1 y_0n1 y_0c1, .slice y_a1 y_n1 y_c1] 26)) _ := More.trans (by assumption) hb1; have HBw := HB _ HX))
  go_ret
  exact ⟨ret_bool (decide_eq_true EQ.out).symm, mC⟩
end Go.Proofs.YtnbefpfijaimjaaGreatDoor
/- A box's cells as a range. It speaks of no program. -/
namespace Go.Proofs.YtnbefpfijaimjaaGreatDoor
open Go.RowKit
theorem box_range {X w' : World} {l : List Value} {t : TypeId} {N : Nat} (hN : X.heap.size = N) (h : More (X.alloc (.cells l.toArray t)) w') : w'.rangeAt N 0 l := by
  intro j v hv
  rw [Nat.zero_add, box_new hN h j]
  simpa using hv
/-- A long load behind a guard. -/
theorem wpList_load_midG {P : Program} {ops : Array Oper} {rest : List Oper} {op : Oper} {a : Act} {w : World} {Q : Exit → Act → World → Prop} (hgd : Region.wanted op (yielded ops a.tmps) = true) (ty : TypeId) (x : Operand) (ho : op.op = .load ty x)
    (b o : Nat) (hx : a.eval x = .pointer (some ⟨b, o, none⟩)) (cs : List Value) (d : TypeDesc) (hc : w.rangeAt b o cs)
    (hu : P.underlying ty = some d) (hd : d.isRow = true) (hi : (P.info? ty).map (·.size) = some cs.length)
    (h : wpList P ops Q rest (a.put op.dst (.agg cs.toArray)) w) : wpList P ops Q (op :: rest) a w :=
  wpList_step fun K hK => by
    rw [if_pos hgd]
    exact wp_load_mid ty x ho b o hx cs d hc hu hd hi (hK _ _ h)
end Go.Proofs.YtnbefpfijaimjaaGreatDoor
