/- Natural numbers as limbs: the product: the program's and the reference's. -/
import Derived.Test.YtnbefpfijaimjaaGreatDoorRows
import Derived.Test.YtnbefpfijaimjaaGreatDoorNatB
import Derived.Test.YtnbefpfijaimjaaGreatDoorApp
import Derived.Deep.RegionHeld3
import Derived.Deep.QuietTactic
import Derived.BigQuiet
import Derived.IntWalk
namespace Go.Proofs.YtnbefpfijaimjaaGreatDoor
open Go.RowKit
theorem mul_lt_low (a b i : Nat) : val ((limbs a).take i) * b < bp (i + (limbs b).length) := by
  have h1 := limbs_take_lt a i
  have h2 := limbs_lt b
  have h3 := limbs_take_nonneg a i
  rw [bp_add]
  have h4 : val ((limbs a).take i) * b ≤ val ((limbs a).take i) * bp (limbs b).length := Int.mul_le_mul_of_nonneg_left (by omega) h3
  have h5 : val ((limbs a).take i) * bp (limbs b).length < bp i * bp (limbs b).length := Int.mul_lt_mul_of_pos_right h1 (bp_pos _)
  omega
theorem val_lt_zeros {l : List Int} (h : IsL l) {m : Nat} (hz : ∀ p, m ≤ p → l.getD p 0 = 0) : val l < bp m := by
  by_cases hm : m ≤ l.length
  · have h1 := val_drop l m hm
    have h2 : l.drop m = List.replicate (l.length - m) 0 := by
      apply List.ext_getElem?
      intro i
      rw [List.getElem?_drop, List.getElem?_replicate]
      by_cases hi : m + i < l.length
      · have := hz (m + i) (by omega)
        rw [List.getD_eq_getElem?_getD, List.getElem?_eq_getElem hi] at this
        rw [List.getElem?_eq_getElem hi, if_pos (by omega)]
        simpa using this
      · rw [List.getElem?_eq_none (by omega), if_neg (by omega)]
    rw [h2, val_replicate_zero] at h1
    have h3 : val (l.take m) < bp m := Int.lt_of_lt_of_le (val_lt (h.take m)) (bp_mono (by rw [List.length_take]; omega))
    omega
  · exact Int.lt_of_lt_of_le (val_lt h) (bp_mono (by omega))
set_option maxRecDepth 4000 in
set_option maxHeartbeats 12800000 in
theorem impl_natMul (v v' : Value) (a b : Nat) (w : World) (hv : tInts.at w [v] (limbs a)) (hv' : tInts.at w [v'] (limbs b)) (hl : (limbs a).length ≤ 4096) (hm : (limbs b).length ≤ 4096) :
    Calls Tryz.prog 108 #[v, v'] w fun e w' => ∃ u, e = .returned u ∧ More w w' ∧ tInts.at w' [u] (limbs (a * b)) := by
  obtain ⟨ao, cap, rfl⟩ := sl_len hv
  obtain ⟨ao', cap', rfl⟩ := sl_len hv'
  have HV := Lib.hid hv; clear hv
  have HV' := Lib.hid hv'; clear hv'
  obtain ⟨n, hn⟩ : ∃ n, n = (limbs a).length := ⟨_, rfl⟩
  obtain ⟨n', hn'⟩ : ∃ n', n' = (limbs b).length := ⟨_, rfl⟩
  rw [← hn] at HV hl ⊢
  rw [← hn'] at HV' hm ⊢
  have HN := Lib.hid hn; have HN' := Lib.hid hn'; clear hn hn'
  obtain ⟨i0, hi, hz0, hz1, hz2⟩ := info_parts infoInt_
  obtain ⟨NN, hNN⟩ : ∃ NN, NN = n + n' := ⟨_, rfl⟩
  have HNN : Hid (NN = (limbs a).length + (limbs b).length) := Lib.hid (by rw [hNN, HN.out, HN'.out])
  have hNNi : (n : Int) + (n' : Int) = (NN : Int) := by omega
  have hNNl : NN ≤ 8192 := by omega
  have HNN0 := Lib.hid hNN; clear hNN
  go_enter Tryz.func108, Tryz.ntmps108
  go_wp2_with (at_make; refine wpList_make_full _ rfl _ _ 22 rfl w.heap.size 3 i0 (.int .i64 0) 1 Tryz.underlying22 hi hz0 hz1 _ _ _ _ NN rfl rfl ?_ ?_ ?_ ?_ ?_ ?_)
  all_goals first | rfl | omega | (rw [hz2]; omega) | (unfold maxLen; omega) | exact Nat.le_refl _ | skip
  intro w1 hown hgr
  have hb1 : More w w1 := Turns.more ((Turns.refl _ _).grown hgr (by simp))
  have HO : Hid (RowI w.heap.size 3 w1 w.heap.size NN (List.replicate NN 0)) := Lib.hid (RowI.made (by rw [Nat.mul_one]; exact hown))
  clear hown hgr
  go_wp2_with fail
  go_loopw [19] (fun i wr => ∃ (k : Nat) (xs : List Int), k ≤ n ∧ i = .int .i64 k ∧ More w wr ∧ Hid (RowI w.heap.size 3 wr w.heap.size NN xs) ∧ Hid (MulInv a b k xs)) (fun i _ => n - (intOf i).toNat)
  case atStart => exact ⟨0, _, Nat.zero_le _, rfl, hb1, HO, Lib.hid (by rw [HNN.out]; exact MulInv.start a b)⟩
  case round =>
    clear HO hb1
    obtain ⟨k, xs, hk, rfl, hm1, HR, HI⟩ := hrel
    by_cases ha : k < n
    · have ha1 : (k : Int) < (n : Int) := by omega
      obtain ⟨px, offx, x, rfl, hbltx, hxx, -, ccx⟩ := int_el (Ty.at_more HV.out hm1) (k := k) (by rw [← HN.out]; exact ha)
      have GX : Hid ((limbs a).getD k 0 = x) := Lib.hid (by rw [List.getD_eq_getElem?_getD, hxx]; rfl)
      clear hxx
      have HI1 : Hid (MulRow a b k 0 xs 0) := Lib.hid (HI.out.open (by rw [← HN.out]; exact ha))
      skip
      go_wp2_with fail
      go_loopw [8, 9] (fun c i wr => ∃ (j : Nat) (ys : List Int) (c0 : Int), k + j ≤ NN ∧ i = .int .i64 j ∧ c = .int .i64 c0 ∧ (0 ≤ c0 ∧ c0 < 1000000000) ∧ More w wr ∧ Hid (RowI w.heap.size 3 wr w.heap.size NN ys) ∧ Hid (MulRow a b k j ys c0)) (fun _ i _ => NN - (intOf i).toNat)
      case atStart => exact ⟨0, xs, 0, by omega, rfl, rfl, by omega, hm1, HR, HI1⟩
      case round =>
        clear HR HI HI1 hm1
        obtain ⟨j, ys, c0, hkj, rfl, rfl, hc0, hmi, HR, HI⟩ := hrel
        by_cases hb : j < n'
        · have hb1 : (j : Int) < (n' : Int) := by omega
          have hroom := HI.out.room (by rw [← HN'.out]; exact .inl hb)
          rw [HI.out.len, ← HNN.out] at hroom
          obtain ⟨p, hp⟩ : ∃ p, p = k + j := ⟨_, rfl⟩
          have hpN : p < NN := by omega
          have hpi : (p : Int) < (NN : Int) := by omega
          have hp0 : (0 : Int) ≤ (p : Int) := by omega
          have hwp : IntKind.i64.wrap ((k : Int) + (j : Int)) = (p : Int) := by rw [hp]; exact IntWalk.i64_in _ (by omega)
          have HP := Lib.hid hp
          clear hp
          obtain ⟨q0, f0, -, hg0⟩ := HR.out.get (k := p) hpN
          obtain ⟨b1, b2, b3, b4⟩ := HI.out.bound p
          obtain ⟨y, ey⟩ : ∃ y, (limbs b).getD j 0 = y := ⟨_, rfl⟩
          have GY := Lib.hid ey
          rw [ey, GX.out] at b1 b2
          clear ey
          obtain ⟨z, ez⟩ : ∃ z, ys.getD p 0 = z := ⟨_, rfl⟩
          rw [ez] at b3 b4 q0
          have EZ := Lib.hid ez; clear ez
          obtain ⟨m, em⟩ : ∃ m, m = x * y := ⟨_, rfl⟩
          rw [← em] at b1 b2
          have hwm : IntKind.i64.wrap (x * y) = m := by rw [← em]; exact IntWalk.i64_in _ (by omega)
          have hw2 : IntKind.i64.wrap (z + m) = z + m := IntWalk.i64_in _ (by omega)
          obtain ⟨s, es⟩ : ∃ s, s = z + m + c0 := ⟨_, rfl⟩
          have hw3 : IntKind.i64.wrap (z + m + c0) = s := by rw [es]; exact IntWalk.i64_in _ (by omega)
          have hs0 : 0 ≤ s := by omega
          obtain ⟨q, e1⟩ : ∃ q, s % 1000000000 = q := ⟨_, rfl⟩
          obtain ⟨r, e2⟩ : ∃ r, s / 1000000000 = r := ⟨_, rfl⟩
          have hq : 0 ≤ q ∧ q < 1000000000 := by omega
          have hr : 0 ≤ r ∧ r < 1000000000 := by omega
          have HI2 : Hid (MulRow a b k (j + 1) (ys.set p q) r) := Lib.hid (by
            rw [← e1, ← e2, ← tm_eq hs0, ← td_eq hs0, HP.out]
            exact HI.out.step (by rw [HI.out.len, ← HNN.out, ← HP.out]; exact hpN) (by rw [es, em, GX.out, GY.out, ← HP.out, EZ.out]))
          have C0 : ∀ w', More wr w' → w'.cell? ⟨w.heap.size, p, none⟩ = some (.int .i64 z) := fun w' h => box_keep h hg0 q0
          clear em es
          go_wp2_with fail
          go_region_held3 (fun w' => More wr w') (first | exact More.refl _ | exact mC) (first | (go_at_call 146; (with_reducible refine (impl_limb_ (.slice ao' n' cap') (limbs b) j y _ (Ty.at_more HV'.out mC) GY.out).mono ?_); rintro e w4 ⟨rfl, hb4⟩))
          have R4 := Lib.hid (RowI.more HR.out (show More wr w4 from mC))
          obtain ⟨q4, f4, -, hg4⟩ := R4.out.get (k := p) hpN
          clear C0
          go_wp2_with fail
          go_roundw
          case rel => exact ⟨j + 1, _, r, by omega, by go_num, (by first | rfl | rw [e2]), hr, mC2, Lib.hid (R4.out.set hpN (In64.small (by omega))), HI2⟩
          case measure => simp [intOf]; omega
        have hb1 : ¬ (j : Int) < (n' : Int) := by omega
        by_cases hc : 0 < c0
        · skip
          have hroom := HI.out.room (by rw [← HN'.out]; exact .inr hc)
          rw [HI.out.len, ← HNN.out] at hroom
          obtain ⟨p, hp⟩ : ∃ p, p = k + j := ⟨_, rfl⟩
          have hpN : p < NN := by omega
          have hpi : (p : Int) < (NN : Int) := by omega
          have hp0 : (0 : Int) ≤ (p : Int) := by omega
          have hwp : IntKind.i64.wrap ((k : Int) + (j : Int)) = (p : Int) := by rw [hp]; exact IntWalk.i64_in _ (by omega)
          have HP := Lib.hid hp
          clear hp
          obtain ⟨q0, f0, -, hg0⟩ := HR.out.get (k := p) hpN
          obtain ⟨b1, b2, b3, b4⟩ := HI.out.bound p
          obtain ⟨y, ey⟩ : ∃ y, (limbs b).getD j 0 = y := ⟨_, rfl⟩
          have GY := Lib.hid ey
          rw [ey, GX.out] at b1 b2
          clear ey
          obtain ⟨z, ez⟩ : ∃ z, ys.getD p 0 = z := ⟨_, rfl⟩
          rw [ez] at b3 b4 q0
          have EZ := Lib.hid ez; clear ez
          obtain ⟨m, em⟩ : ∃ m, m = x * y := ⟨_, rfl⟩
          rw [← em] at b1 b2
          have hwm : IntKind.i64.wrap (x * y) = m := by rw [← em]; exact IntWalk.i64_in _ (by omega)
          have hw2 : IntKind.i64.wrap (z + m) = z + m := IntWalk.i64_in _ (by omega)
          obtain ⟨s, es⟩ : ∃ s, s = z + m + c0 := ⟨_, rfl⟩
          have hw3 : IntKind.i64.wrap (z + m + c0) = s := by rw [es]; exact IntWalk.i64_in _ (by omega)
          have hs0 : 0 ≤ s := by omega
          obtain ⟨q, e1⟩ : ∃ q, s % 1000000000 = q := ⟨_, rfl⟩
          obtain ⟨r, e2⟩ : ∃ r, s / 1000000000 = r := ⟨_, rfl⟩
          have hq : 0 ≤ q ∧ q < 1000000000 := by omega
          have hr : 0 ≤ r ∧ r < 1000000000 := by omega
          have HI2 : Hid (MulRow a b k (j + 1) (ys.set p q) r) := Lib.hid (by
            rw [← e1, ← e2, ← tm_eq hs0, ← td_eq hs0, HP.out]
            exact HI.out.step (by rw [HI.out.len, ← HNN.out, ← HP.out]; exact hpN) (by rw [es, em, GX.out, GY.out, ← HP.out, EZ.out]))
          have C0 : ∀ w', More wr w' → w'.cell? ⟨w.heap.size, p, none⟩ = some (.int .i64 z) := fun w' h => box_keep h hg0 q0
          clear em es
          go_wp2_with fail
          go_region_held3 (fun w' => More wr w') (first | exact More.refl _ | exact mC) (first | (go_at_call 146; (with_reducible refine (impl_limb_ (.slice ao' n' cap') (limbs b) j y _ (Ty.at_more HV'.out mC) GY.out).mono ?_); rintro e w4 ⟨rfl, hb4⟩))
          have R4 := Lib.hid (RowI.more HR.out (show More wr w4 from mC))
          obtain ⟨q4, f4, -, hg4⟩ := R4.out.get (k := p) hpN
          clear C0
          go_wp2_with fail
          go_roundw
          case rel => exact ⟨j + 1, _, r, by omega, by go_num, (by first | rfl | rw [e2]), hr, mC2, Lib.hid (R4.out.set hpN (In64.small (by omega))), HI2⟩
          case measure => simp [intOf]; omega
        go_wp2_with fail
        go_roundw
        case rel => exact ⟨k + 1, ys, by omega, by go_num, More.trans hmi mC, HR, Lib.hid (HI.out.close (by rw [← HN'.out]; exact hb) (by omega))⟩
        case measure => simp [intOf]; omega
    · obtain rfl : k = n := by omega
      have HD : Hid (IsL xs ∧ val xs = ((a * b : Nat) : Int)) := Lib.hid (by have h := HI.out; rw [HN.out] at h; exact h.done)
      go_wp2_with (first | (go_at_call 88; refine (impl_trimmed _ xs (a * b) _ (Ty.at_more HR.out.at mC) (by rw [HI.out.len, ← HNN.out]; omega) HD.out.1 HD.out.2).mono ?_; rintro e w9 ⟨u, rfl, hb9, g9⟩))
      go_ret
      exact ⟨_, rfl, More.trans hm1 mC, g9⟩
set_option maxRecDepth 4000 in
set_option maxHeartbeats 12800000 in
theorem spec_l02Mul (v v' : Value) (a b : Nat) (w : World) (hv : tInts.at w [v] (limbs a)) (hv' : tInts.at w [v'] (limbs b)) (hl : (limbs a).length ≤ 4096) (hm : (limbs b).length ≤ 4096) :
    Calls Tryz.prog 129 #[v, v'] w fun e w' => ∃ u, e = .returned u ∧ More w w' ∧ tInts.at w' [u] (limbs (a * b)) := by
  obtain ⟨ao, cap, rfl⟩ := sl_len hv
  obtain ⟨ao', cap', rfl⟩ := sl_len hv'
  have HV := Lib.hid hv; clear hv
  have HV' := Lib.hid hv'; clear hv'
  obtain ⟨n, hn⟩ : ∃ n, n = (limbs a).length := ⟨_, rfl⟩
  obtain ⟨n', hn'⟩ : ∃ n', n' = (limbs b).length := ⟨_, rfl⟩
  rw [← hn] at HV hl ⊢
  rw [← hn'] at HV' hm ⊢
  have HN := Lib.hid hn; have HN' := Lib.hid hn'; clear hn hn'
  obtain ⟨i0, hi, hz0, hz1, hz2⟩ := info_parts infoInt_
  obtain ⟨NN, hNN⟩ : ∃ NN, NN = n + n' := ⟨_, rfl⟩
  have HNN : Hid (NN = (limbs a).length + (limbs b).length) := Lib.hid (by rw [hNN, HN.out, HN'.out])
  have hNNi : (n : Int) + (n' : Int) = (NN : Int) := by omega
  have hNNl : NN ≤ 8192 := by omega
  have HNN0 := Lib.hid hNN; clear hNN
  by_cases hz : n = 0
  · have hz' : ((n : Int) == 0) = true := by simp; omega
    go_enter Tryz.func129, Tryz.ntmps129
    go_wp2_with fail
    go_ret
    refine ⟨_, rfl, mC, ?_⟩
    have ha0 : a = 0 := limbs_nil.1 (List.eq_nil_of_length_eq_zero (by rw [← HN.out]; exact hz))
    rw [ha0, Nat.zero_mul, limbs_zero]
    exact Ty.fresh_at (nil_fresh (B := 0))
  have hz1' : ((n : Int) == 0) = false := by simp; omega
  by_cases hy : n' = 0
  · have hz' : ((n' : Int) == 0) = true := by simp; omega
    go_enter Tryz.func129, Tryz.ntmps129
    go_wp2_with fail
    go_ret
    refine ⟨_, rfl, mC, ?_⟩
    have ha0 : b = 0 := limbs_nil.1 (List.eq_nil_of_length_eq_zero (by rw [← HN'.out]; exact hy))
    rw [ha0, Nat.mul_zero, limbs_zero]
    exact Ty.fresh_at (nil_fresh (B := 0))
  have hz2' : ((n' : Int) == 0) = false := by simp; omega
  go_enter Tryz.func129, Tryz.ntmps129
  go_wp2_with (at_make; refine wpList_make_full _ rfl _ _ 22 rfl w.heap.size 3 i0 (.int .i64 0) 1 Tryz.underlying22 hi hz0 hz1 _ _ _ _ NN rfl rfl ?_ ?_ ?_ ?_ ?_ ?_)
  all_goals first | rfl | omega | (rw [hz2]; omega) | (unfold maxLen; omega) | exact Nat.le_refl _ | skip
  intro w1 hown hgr
  have hb1 : More w w1 := Turns.more ((Turns.refl _ _).grown hgr (by simp))
  have HO : Hid (RowI w.heap.size 3 w1 w.heap.size NN (List.replicate NN 0)) := Lib.hid (RowI.made (by rw [Nat.mul_one]; exact hown))
  clear hown hgr
  go_wp2_with fail
  go_loopw [28] (fun i wr => ∃ (k : Nat) (xs : List Int), k ≤ n ∧ i = .int .i64 k ∧ More w wr ∧ Hid (RowI w.heap.size 3 wr w.heap.size NN xs) ∧ Hid (MulInv a b k xs)) (fun i _ => n - (intOf i).toNat)
  case atStart => exact ⟨0, _, Nat.zero_le _, rfl, hb1, HO, Lib.hid (by rw [HNN.out]; exact MulInv.start a b)⟩
  case round =>
    clear HO hb1
    obtain ⟨k, xs, hk, rfl, hm1, HR, HI⟩ := hrel
    by_cases ha : k < n
    · have ha1 : (k : Int) < (n : Int) := by omega
      obtain ⟨px, offx, x, rfl, hbltx, hxx, -, ccx⟩ := int_el (Ty.at_more HV.out hm1) (k := k) (by rw [← HN.out]; exact ha)
      have GX : Hid ((limbs a).getD k 0 = x) := Lib.hid (by rw [List.getD_eq_getElem?_getD, hxx]; rfl)
      clear hxx
      have HI1 : Hid (MulRow a b k 0 xs 0) := Lib.hid (HI.out.open (by rw [← HN.out]; exact ha))
      have HZ0 : Hid (∀ p, k + n' ≤ p → xs.getD p 0 = 0) := Lib.hid (fun p hp => high_zero HI.out.ok (p := k + n') (by rw [HI.out.sum, HN'.out]; exact mul_lt_low a b k) p hp)
      go_wp2_with fail
      go_loopw [8, 35] (fun c i wr => ∃ (j : Nat) (ys : List Int) (c0 : Int), k + j ≤ NN ∧ j ≤ n' ∧ i = .int .i64 j ∧ c = .int .i64 c0 ∧ (0 ≤ c0 ∧ c0 < 1000000000) ∧ More w wr ∧ Hid (RowI w.heap.size 3 wr w.heap.size NN ys) ∧ Hid (MulRow a b k j ys c0) ∧ Hid (∀ p, k + n' ≤ p → ys.getD p 0 = 0)) (fun _ i _ => NN - (intOf i).toNat)
      case atStart => exact ⟨0, xs, 0, by omega, Nat.zero_le _, rfl, rfl, by omega, hm1, HR, HI1, HZ0⟩
      case round =>
        clear HR HI HI1 hm1 HZ0
        obtain ⟨j, ys, c0, hkj, hjn, rfl, rfl, hc0, hmi, HR, HI, HZ⟩ := hrel
        by_cases hb : j < n'
        · have hb1 : (j : Int) < (n' : Int) := by omega
          have hroom := HI.out.room (by rw [← HN'.out]; exact .inl hb)
          rw [HI.out.len, ← HNN.out] at hroom
          obtain ⟨p, hp⟩ : ∃ p, p = k + j := ⟨_, rfl⟩
          have hpN : p < NN := by omega
          have hpi : (p : Int) < (NN : Int) := by omega
          have hp0 : (0 : Int) ≤ (p : Int) := by omega
          have hwp : IntKind.i64.wrap ((k : Int) + (j : Int)) = (p : Int) := by rw [hp]; exact IntWalk.i64_in _ (by omega)
          have HP := Lib.hid hp
          clear hp
          obtain ⟨q0, f0, -, hg0⟩ := HR.out.get (k := p) hpN
          obtain ⟨b1, b2, b3, b4⟩ := HI.out.bound p
          obtain ⟨y, ey⟩ : ∃ y, (limbs b).getD j 0 = y := ⟨_, rfl⟩
          have GY := Lib.hid ey
          rw [ey, GX.out] at b1 b2
          clear ey
          obtain ⟨z, ez⟩ : ∃ z, ys.getD p 0 = z := ⟨_, rfl⟩
          rw [ez] at b3 b4 q0
          have EZ := Lib.hid ez; clear ez
          obtain ⟨m, em⟩ : ∃ m, m = x * y := ⟨_, rfl⟩
          rw [← em] at b1 b2
          have hwm : IntKind.i64.wrap (x * y) = m := by rw [← em]; exact IntWalk.i64_in _ (by omega)
          have hw2 : IntKind.i64.wrap (z + m) = z + m := IntWalk.i64_in _ (by omega)
          obtain ⟨s, es⟩ : ∃ s, s = z + m + c0 := ⟨_, rfl⟩
          have hw3 : IntKind.i64.wrap (z + m + c0) = s := by rw [es]; exact IntWalk.i64_in _ (by omega)
          have hs0 : 0 ≤ s := by omega
          obtain ⟨q, e1⟩ : ∃ q, s % 1000000000 = q := ⟨_, rfl⟩
          obtain ⟨r, e2⟩ : ∃ r, s / 1000000000 = r := ⟨_, rfl⟩
          have hq : 0 ≤ q ∧ q < 1000000000 := by omega
          have hr : 0 ≤ r ∧ r < 1000000000 := by omega
          have HI2 : Hid (MulRow a b k (j + 1) (ys.set p q) r) := Lib.hid (by
            rw [← e1, ← e2, ← tm_eq hs0, ← td_eq hs0, HP.out]
            exact HI.out.step (by rw [HI.out.len, ← HNN.out, ← HP.out]; exact hpN) (by rw [es, em, GX.out, GY.out, ← HP.out, EZ.out]))
          have HZ2 : Hid (∀ p', k + n' ≤ p' → (ys.set p q).getD p' 0 = 0) := Lib.hid (fun p' hp' => by have h5 := HP.out; rw [getD_set_ne (by omega)]; exact HZ.out p' hp')
          clear em es
          obtain ⟨py, offy, y', rfl, hblty, hxy, -, ccy⟩ := int_el (Ty.at_more HV'.out hmi) (k := j) (by rw [← HN'.out]; exact hb)
          obtain rfl : y = y' := by have h := GY.out; rw [List.getD_eq_getElem?_getD, hxy] at h; exact h.symm
          clear hxy
          go_wp2_with fail
          go_roundw
          case rel => exact ⟨j + 1, _, r, by omega, by omega, by go_num, (by first | rfl | rw [e2]), hr, mC2, Lib.hid (HR.out.set hpN (In64.small (by omega))), HI2, HZ2⟩
          case measure => simp [intOf]; omega
        have hb1 : ¬ (j : Int) < (n' : Int) := by omega
        obtain rfl : j = n' := by omega
        obtain ⟨p, hp⟩ : ∃ p, p = k + j := ⟨_, rfl⟩
        have hpN : p < NN := by omega
        have hpi : (p : Int) < (NN : Int) := by omega
        have hp0 : (0 : Int) ≤ (p : Int) := by omega
        have hwp : IntKind.i64.wrap ((k : Int) + (j : Int)) = (p : Int) := by rw [hp]; exact IntWalk.i64_in _ (by omega)
        obtain ⟨q0, f0, -, hg0⟩ := HR.out.get (k := p) hpN
        have HP := Lib.hid hp; clear hp
        go_wp2_with fail
        go_roundw
        case rel => exact ⟨k + 1, ys.set p c0, by omega, by go_num, mC2, Lib.hid (HR.out.set hpN (In64.small (by omega))), Lib.hid (by
          have h := HI.out
          rw [HN'.out] at h
          rw [HP.out, HN'.out]
          exact h.last (by rw [← HN'.out]; exact val_lt_zeros h.ok (fun p' hp' => HZ.out p' hp')))⟩
        case measure => simp [intOf]; omega
    · obtain rfl : k = n := by omega
      have HD : Hid (IsL xs ∧ val xs = ((a * b : Nat) : Int)) := Lib.hid (by have h := HI.out; rw [HN.out] at h; exact h.done)
      go_wp2_with (first | (go_at_call 79; refine (spec_l02Trim _ xs (a * b) _ (Ty.at_more HR.out.at mC) (by rw [HI.out.len, ← HNN.out]; omega) HD.out.1 HD.out.2).mono ?_; rintro e w9 ⟨u, rfl, hb9, g9⟩))
      go_ret
      exact ⟨_, rfl, More.trans hm1 mC, g9⟩
end Go.Proofs.YtnbefpfijaimjaaGreatDoor
