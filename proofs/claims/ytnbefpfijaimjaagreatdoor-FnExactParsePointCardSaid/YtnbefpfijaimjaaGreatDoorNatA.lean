/- Natural numbers as limbs: single limbs, trimming, making, comparing: the program's and the reference's. -/
import Derived.Test.YtnbefpfijaimjaaGreatDoorRows
import Derived.Test.YtnbefpfijaimjaaGreatDoorGNum
import Derived.Test.YtnbefpfijaimjaaGreatDoorApp
import Derived.Deep.RegionHeld3
import Derived.Deep.QuietTactic
import Derived.BigQuiet
import Derived.IntWalk
namespace Go.Proofs.YtnbefpfijaimjaaGreatDoor
open Go.RowKit
theorem infoInt_ : (Tryz.prog.info? 3).map (fun i => (i.zero, i.size, i.bytes)) = some (some (.int .i64 0), 1, 8) := by kernel_rfl
theorem limbs_step {n : Nat} (h : 0 < n) : limbs n = ((n % 1000000000 : Nat) : Int) :: limbs (n / 1000000000) := by
  have := limbs_cons (a := n % 1000000000) (r := n / 1000000000) (Nat.mod_lt _ (by decide)) (by omega)
  rw [this, Nat.mod_add_div]
theorem impl_limb (v : Value) (l : List Int) (i : Nat) (w : World) (hv : tInts.at w [v] l) :
    Calls Tryz.prog 146 #[v, .int .i64 (i : Int)] w fun e w' => e = .returned (.int .i64 (l.getD i 0)) ∧ More w w' := by
  obtain ⟨ao, cap, rfl⟩ := sl_len hv
  obtain ⟨n, hn⟩ : ∃ n, n = l.length := ⟨_, rfl⟩
  rw [← hn] at hv ⊢
  by_cases h : i < n
  · obtain ⟨b, off, x, rfl, hblt, hx, ox, c0⟩ := int_el hv (k := i) (by rw [← hn]; exact h)
    have hi1 : (i : Int) < (n : Int) := by omega
    have GX : Hid (l.getD i 0 = x) := Lib.hid (by rw [List.getD_eq_getElem?_getD, hx]; rfl)
    clear hv hn hx ox
    go_enter Tryz.func146, Tryz.ntmps146
    go_wp2_with fail
    go_ret
    exact ⟨ret_int GX.out.symm, mC⟩
  · have hi1 : ¬ (i : Int) < (n : Int) := by omega
    have GX : Hid (l.getD i 0 = 0) := Lib.hid (by rw [List.getD_eq_getElem?_getD, List.getElem?_eq_none (by omega)]; rfl)
    clear hv hn
    go_enter Tryz.func146, Tryz.ntmps146
    go_wp2_with fail
    go_ret
    exact ⟨ret_int GX.out.symm, mC⟩
theorem cmp_isNaN (x : Int) (w : World) : Calls Tryz.prog 188 #[.int .i64 x] w fun e w' => e = .returned (.bool false) ∧ More w w' := by
  go_enter Tryz.func188, Tryz.ntmps188
  go_wp2_with fail
  go_ret
  exact ⟨rfl, mC⟩
theorem cmp_Compare (x y : Int) (w : World) : Calls Tryz.prog 175 #[.int .i64 x, .int .i64 y] w fun e w' => e = .returned (.int .i64 (cmpI x y)) ∧ More w w' := by
  by_cases h1 : x < y
  · go_enter Tryz.func175, Tryz.ntmps175
    go_wp2_with (go_at_call 188; refine (cmp_isNaN _ _).mono ?_; rintro e w1 ⟨rfl, hb1⟩)
    go_ret
    exact ⟨ret_int (cmpI_lt h1).symm, mC⟩
  by_cases h2 : y < x
  · go_enter Tryz.func175, Tryz.ntmps175
    go_wp2_with (go_at_call 188; refine (cmp_isNaN _ _).mono ?_; rintro e w1 ⟨rfl, hb1⟩)
    go_ret
    exact ⟨ret_int (cmpI_gt h2).symm, mC⟩
  · go_enter Tryz.func175, Tryz.ntmps175
    go_wp2_with (go_at_call 188; refine (cmp_isNaN _ _).mono ?_; rintro e w1 ⟨rfl, hb1⟩)
    go_ret
    exact ⟨ret_int (cmpI_eq (by omega)).symm, mC⟩
set_option maxHeartbeats 1600000 in
theorem impl_trimmed (v : Value) (l : List Int) (N : Nat) (w : World) (hv : tInts.at w [v] l) (hl : l.length ≤ 1048576) (hok : IsL l) (hval : val l = N) :
    Calls Tryz.prog 88 #[v] w fun e w' => ∃ v', e = .returned v' ∧ More w w' ∧ tInts.at w' [v'] (limbs N) := by
  obtain ⟨ao, cap, rfl, k1, k2, k3, -⟩ := slRd_at hv
  have HV := Lib.hid hv; have HOK := Lib.hid hok; have HVAL := Lib.hid hval; clear hv hok hval
  have hcap : cap ≤ 9223372036854775807 := by unfold maxLen at k2; omega
  clear k2
  obtain ⟨n, hn⟩ : ∃ n, n = l.length := ⟨_, rfl⟩
  rw [← hn] at HV hl k1 ⊢
  have HN := Lib.hid hn; clear hn
  go_enter Tryz.func88, Tryz.ntmps88
  go_wp2_with fail
  go_loopw [3] (fun i wr => ∃ m : Nat, m ≤ n ∧ i = .int .i64 m ∧ More w wr ∧ Hid (∀ j, m ≤ j → j < n → l.getD j 0 = 0)) (fun i _ => (intOf i).toNat)
  case atStart => exact ⟨n, Nat.le_refl _, rfl, More.refl _, Lib.hid (fun j h1 h2 => by omega)⟩
  case round =>
    obtain ⟨m, hmn, rfl, hm, HZ⟩ := hrel
    by_cases h0 : 0 < m
    · have hi0 : (0 : Int) < (m : Int) := by omega
      have hi1 : (m : Int) - 1 < (n : Int) := by omega
      have hi2 : (0 : Int) ≤ (m : Int) - 1 := by omega
      have hwk : IntKind.i64.wrap ((m : Int) - 1) = (m : Int) - 1 := IntWalk.i64_in _ (by omega)
      have e9 : ((m : Int) - 1).toNat = m - 1 := by omega
      obtain ⟨b, off, x, rfl, hblt, hx, ox, c0⟩ := int_el (Ty.at_more HV.out hm) (k := m - 1) (by rw [← HN.out]; omega)
      have HX := Lib.hid hx; clear hx ox
      by_cases hz : x = 0
      · subst hz
        go_wp2_with fail
        go_roundw
        case rel => exact ⟨m - 1, by omega, by go_num, mC, Lib.hid (fun j h1 h2 => by
          by_cases hj : j = m - 1
          · subst hj; rw [List.getD_eq_getElem?_getD, HX.out]; rfl
          · exact HZ.out j (by omega) h2)⟩
        case measure => simp [intOf]; omega
      · have hz' : (x == 0) = false := by simp [hz]
        go_wp2_with fail
        go_ret
        refine ⟨_, rfl, mC, ?_⟩
        have h2 := trim_limbs HOK.out HVAL.out (m := m) (by rw [← HN.out]; exact hmn) (fun j h1 h2 => HZ.out j h1 (by rw [HN.out]; exact h2)) (.inr (by rw [List.getD_eq_getElem?_getD, HX.out]; exact hz))
        rw [← h2]
        exact sl_take (Ty.at_more HV.out mC) hmn
    · have hi0 : ¬ (0 : Int) < (m : Int) := by omega
      have hm0 : m = 0 := by omega
      subst hm0
      go_wp2_with fail
      go_ret
      refine ⟨_, rfl, mC, ?_⟩
      have h2 := trim_limbs HOK.out HVAL.out (m := 0) (by omega) (fun j h1 h2 => HZ.out j h1 (by rw [HN.out]; exact h2)) (.inl rfl)
      rw [← h2]
      exact sl_take (Ty.at_more HV.out mC) hmn
set_option maxHeartbeats 1600000 in
theorem spec_l02Trim (v : Value) (l : List Int) (N : Nat) (w : World) (hv : tInts.at w [v] l) (hl : l.length ≤ 1048576) (hok : IsL l) (hval : val l = N) :
    Calls Tryz.prog 79 #[v] w fun e w' => ∃ v', e = .returned v' ∧ More w w' ∧ tInts.at w' [v'] (limbs N) := by
  obtain ⟨ao, cap, rfl, k1, k2, k3, -⟩ := slRd_at hv
  have HV := Lib.hid hv; have HOK := Lib.hid hok; have HVAL := Lib.hid hval; clear hv hok hval
  have hcap : cap ≤ 9223372036854775807 := by unfold maxLen at k2; omega
  clear k2
  obtain ⟨n, hn⟩ : ∃ n, n = l.length := ⟨_, rfl⟩
  rw [← hn] at HV hl k1 ⊢
  have HN := Lib.hid hn; clear hn
  go_enter Tryz.func79, Tryz.ntmps79
  go_wp2_with fail
  go_loopw [3] (fun i wr => ∃ m : Nat, m ≤ n ∧ i = .int .i64 m ∧ More w wr ∧ Hid (∀ j, m ≤ j → j < n → l.getD j 0 = 0)) (fun i _ => (intOf i).toNat)
  case atStart => exact ⟨n, Nat.le_refl _, rfl, More.refl _, Lib.hid (fun j h1 h2 => by omega)⟩
  case round =>
    obtain ⟨m, hmn, rfl, hm, HZ⟩ := hrel
    by_cases h0 : 0 < m
    · have hi0 : (0 : Int) < (m : Int) := by omega
      have hi1 : (m : Int) - 1 < (n : Int) := by omega
      have hi2 : (0 : Int) ≤ (m : Int) - 1 := by omega
      have hwk : IntKind.i64.wrap ((m : Int) - 1) = (m : Int) - 1 := IntWalk.i64_in _ (by omega)
      have e9 : ((m : Int) - 1).toNat = m - 1 := by omega
      obtain ⟨b, off, x, rfl, hblt, hx, ox, c0⟩ := int_el (Ty.at_more HV.out hm) (k := m - 1) (by rw [← HN.out]; omega)
      have HX := Lib.hid hx; clear hx ox
      by_cases hz : x = 0
      · subst hz
        go_wp2_with fail
        go_roundw
        case rel => exact ⟨m - 1, by omega, by go_num, mC, Lib.hid (fun j h1 h2 => by
          by_cases hj : j = m - 1
          · subst hj; rw [List.getD_eq_getElem?_getD, HX.out]; rfl
          · exact HZ.out j (by omega) h2)⟩
        case measure => simp [intOf]; omega
      · have hz' : (x == 0) = false := by simp [hz]
        go_wp2_with fail
        go_ret
        refine ⟨_, rfl, mC, ?_⟩
        have h2 := trim_limbs HOK.out HVAL.out (m := m) (by rw [← HN.out]; exact hmn) (fun j h1 h2 => HZ.out j h1 (by rw [HN.out]; exact h2)) (.inr (by rw [List.getD_eq_getElem?_getD, HX.out]; exact hz))
        rw [← h2]
        exact sl_take (Ty.at_more HV.out mC) hmn
    · have hi0 : ¬ (0 : Int) < (m : Int) := by omega
      have hm0 : m = 0 := by omega
      subst hm0
      go_wp2_with fail
      go_ret
      refine ⟨_, rfl, mC, ?_⟩
      have h2 := trim_limbs HOK.out HVAL.out (m := 0) (by omega) (fun j h1 h2 => HZ.out j h1 (by rw [HN.out]; exact h2)) (.inl rfl)
      rw [← h2]
      exact sl_take (Ty.at_more HV.out mC) hmn
set_option maxHeartbeats 1600000 in
theorem impl_natOf (N : Nat) (w : World) (hN : N < 9223372036854775808) :
    Calls Tryz.prog 148 #[.int .i64 (N : Int)] w fun e w' => ∃ v', e = .returned v' ∧ More w w' ∧ tInts.at w' [v'] (limbs N) := by
  obtain ⟨i0, hi, hz0, hz1, hz2⟩ := info_parts infoInt_
  go_enter Tryz.func148, Tryz.ntmps148
  go_wp2_with fail
  go_loopw [0, 3] (fun i v wr => ∃ (m : Nat) (xs : List Int), m ≤ N ∧ i = .int .i64 (m : Int) ∧ More w wr ∧ Hid (FlatOwn fInt w.heap.size 3 wr v xs) ∧ Hid (limbs N = xs ++ limbs m)) (fun i _ _ => (intOf i).toNat)
  case atStart => exact ⟨N, [], Nat.le_refl _, rfl, mC, Lib.hid (FlatOwn.lit (Nat.le_refl _)), Lib.hid rfl⟩
  case round =>
    obtain ⟨m, xs, hmN, rfl, hm, HL, HE⟩ := hrel
    by_cases h0 : 0 < m
    · have hi0 : (0 : Int) < (m : Int) := by omega
      have e1 : (m : Int).tmod 1000000000 = ((m % 1000000000 : Nat) : Int) := by rw [Int.tmod_eq_emod_of_nonneg (by omega)]; omega
      have e2 : (m : Int).tdiv 1000000000 = ((m / 1000000000 : Nat) : Int) := by rw [Int.tdiv_eq_ediv_of_nonneg (by omega)]; omega
      have HLen : Hid (xs.length ≤ 2097152) := Lib.hid (by
        have h1 := congrArg List.length HE.out
        have h2 : (limbs N).length ≤ 3 := limbs_len_le.2 (by have h9 : bp 3 = 1000000000000000000000000000 := (by decide); omega)
        rw [List.length_append] at h1; omega)
      go_wp2_with (at_builtin; refine wpList_pushFlat fInt wr rfl _ _ 22 rfl w.heap.size 3 i0 (.int .i64 0) 8 Tryz.underlying22 hi hz0 hz1 hz2 rfl (by decide) rfl HL.out mC rfl (by simp) (y := ((m % 1000000000 : Nat) : Int)) (by simp [fInt]) (In64.small (by omega)) HLen (by decide) (Lib.hid hm.size) ?_)
      intro v' w2 hl2 hmw
      go_wp2_with fail
      go_roundw
      case rel => exact ⟨m / 1000000000, _, by omega, by congr 1; try omega, hmw _ rfl mC, Lib.hid hl2, Lib.hid (by rw [HE.out, limbs_step h0, List.append_assoc]; rfl)⟩
      case measure => simp [intOf]; omega
    · have hm0 : m = 0 := by omega
      subst hm0
      go_wp2_with fail
      go_ret
      exact ⟨_, rfl, mC, by rw [HE.out, limbs_zero, List.append_nil]; exact HL.out.at⟩
set_option maxHeartbeats 1600000 in
theorem spec_NatOf (N : Nat) (w : World) (hN : N < 9223372036854775808) :
    Calls Tryz.prog 130 #[.int .i64 (N : Int)] w fun e w' => ∃ v', e = .returned v' ∧ More w w' ∧ tInts.at w' [v'] (limbs N) := by
  obtain ⟨i0, hi, hz0, hz1, hz2⟩ := info_parts infoInt_
  go_enter Tryz.func130, Tryz.ntmps130
  go_wp2_with fail
  go_loopw [0, 3] (fun i v wr => ∃ (m : Nat) (xs : List Int), m ≤ N ∧ i = .int .i64 (m : Int) ∧ More w wr ∧ Hid (FlatOwn fInt w.heap.size 3 wr v xs) ∧ Hid (limbs N = xs ++ limbs m)) (fun i _ _ => (intOf i).toNat)
  case atStart => exact ⟨N, [], Nat.le_refl _, rfl, mC, Lib.hid (FlatOwn.lit (Nat.le_refl _)), Lib.hid rfl⟩
  case round =>
    obtain ⟨m, xs, hmN, rfl, hm, HL, HE⟩ := hrel
    by_cases h0 : 0 < m
    · have hi0 : (0 : Int) < (m : Int) := by omega
      have e1 : (m : Int).tmod 1000000000 = ((m % 1000000000 : Nat) : Int) := by rw [Int.tmod_eq_emod_of_nonneg (by omega)]; omega
      have e2 : (m : Int).tdiv 1000000000 = ((m / 1000000000 : Nat) : Int) := by rw [Int.tdiv_eq_ediv_of_nonneg (by omega)]; omega
      have HLen : Hid (xs.length ≤ 2097152) := Lib.hid (by
        have h1 := congrArg List.length HE.out
        have h2 : (limbs N).length ≤ 3 := limbs_len_le.2 (by have h9 : bp 3 = 1000000000000000000000000000 := (by decide); omega)
        rw [List.length_append] at h1; omega)
      go_wp2_with (at_builtin; refine wpList_pushFlat fInt wr rfl _ _ 22 rfl w.heap.size 3 i0 (.int .i64 0) 8 Tryz.underlying22 hi hz0 hz1 hz2 rfl (by decide) rfl HL.out mC rfl (by simp) (y := ((m % 1000000000 : Nat) : Int)) (by simp [fInt]) (In64.small (by omega)) HLen (by decide) (Lib.hid hm.size) ?_)
      intro v' w2 hl2 hmw
      go_wp2_with fail
      go_roundw
      case rel => exact ⟨m / 1000000000, _, by omega, by congr 1; try omega, hmw _ rfl mC, Lib.hid hl2, Lib.hid (by rw [HE.out, limbs_step h0, List.append_assoc]; rfl)⟩
      case measure => simp [intOf]; omega
    · have hm0 : m = 0 := by omega
      subst hm0
      go_wp2_with fail
      go_ret
      exact ⟨_, rfl, mC, by rw [HE.out, limbs_zero, List.append_nil]; exact HL.out.at⟩
set_option maxHeartbeats 3200000 in
theorem impl_natCmp (v v' : Value) (a b : Nat) (w : World) (hv : tInts.at w [v] (limbs a)) (hv' : tInts.at w [v'] (limbs b)) (hl : (limbs a).length ≤ 1048576) (hm : (limbs b).length ≤ 1048576) :
    Calls Tryz.prog 142 #[v, v'] w fun e w' => e = .returned (.int .i64 (cmpI a b)) ∧ More w w' := by
  obtain ⟨ao, cap, rfl⟩ := sl_len hv
  obtain ⟨ao', cap', rfl⟩ := sl_len hv'
  have HV := Lib.hid hv; clear hv
  have HV' := Lib.hid hv'; clear hv'
  obtain ⟨n, hn⟩ : ∃ n, n = (limbs a).length := ⟨_, rfl⟩
  obtain ⟨n', hn'⟩ : ∃ n', n' = (limbs b).length := ⟨_, rfl⟩
  rw [← hn] at HV hl ⊢
  rw [← hn'] at HV' hm ⊢
  have HN := Lib.hid hn; have HN' := Lib.hid hn'; clear hn hn'
  by_cases hlt : n < n'
  · have hi1 : (n : Int) < (n' : Int) := by omega
    have hne : ((n : Int) != (n' : Int)) = true := by simp; omega
    go_enter Tryz.func142, Tryz.ntmps142
    go_wp2_with (go_at_call 175; refine (cmp_Compare _ _ _).mono ?_; rintro e w1 ⟨rfl, hb1⟩)
    go_ret
    exact ⟨ret_int (by rw [cmpI_lt (val_cmp_len (a := a) (b := b) (by rw [← HN.out, ← HN'.out]; exact hlt))]; exact cmpI_lt hi1), mC⟩
  by_cases hgt : n' < n
  · have hi1 : ¬ (n : Int) < (n' : Int) := by omega
    have hi2 : (n' : Int) < (n : Int) := by omega
    have hne : ((n : Int) != (n' : Int)) = true := by simp; omega
    go_enter Tryz.func142, Tryz.ntmps142
    go_wp2_with (go_at_call 175; refine (cmp_Compare _ _ _).mono ?_; rintro e w1 ⟨rfl, hb1⟩)
    go_ret
    exact ⟨ret_int (by rw [cmpI_gt (val_cmp_len (a := b) (b := a) (by rw [← HN.out, ← HN'.out]; exact hgt))]; exact cmpI_gt hi2), mC⟩
  obtain rfl : n = n' := by omega
  clear hlt hgt
  go_enter Tryz.func142, Tryz.ntmps142
  go_wp2_with fail
  go_loopw [5] (fun i wr => ∃ m : Nat, m ≤ n ∧ i = .int .i64 ((m : Int) - 1) ∧ More w wr ∧ Hid (∀ j, m ≤ j → j < n → (limbs a).getD j 0 = (limbs b).getD j 0)) (fun i _ => (intOf i + 1).toNat)
  case atStart => exact ⟨n, Nat.le_refl _, by go_num, More.refl _, Lib.hid (fun j h1 h2 => by omega)⟩
  case round =>
    obtain ⟨m, hmn, rfl, hmr, HZ⟩ := hrel
    by_cases h0 : 0 < m
    · have hi1 : (m : Int) - 1 < (n : Int) := by omega
      have hi2 : (0 : Int) ≤ (m : Int) - 1 := by omega
      have hwk : IntKind.i64.wrap ((m : Int) - 1 - 1) = (m : Int) - 1 - 1 := IntWalk.i64_in _ (by omega)
      have e9 : ((m : Int) - 1).toNat = m - 1 := by omega
      obtain ⟨p, off, x, rfl, hblt, hx, ox, c0⟩ := int_el (Ty.at_more HV.out hmr) (k := m - 1) (by rw [← HN.out]; omega)
      obtain ⟨p', off', y, rfl, hblt', hy, oy, d0⟩ := int_el (Ty.at_more HV'.out hmr) (k := m - 1) (by rw [← HN'.out]; omega)
      have GX : Hid ((limbs a).getD (m - 1) 0 = x) := Lib.hid (by rw [List.getD_eq_getElem?_getD, hx]; rfl)
      have GY : Hid ((limbs b).getD (m - 1) 0 = y) := Lib.hid (by rw [List.getD_eq_getElem?_getD, hy]; rfl)
      clear hx ox hy oy
      have EQN : Hid ((limbs a).length = (limbs b).length) := Lib.hid (by rw [← HN.out, ← HN'.out])
      by_cases hxy : x < y
      · have hne : (x != y) = true := by simp; omega
        have C0 : ∀ w', More wr w' → w'.cell? ⟨p, off + (m - 1), none⟩ = some (.int .i64 x) := fun w' h => box_keep h hblt c0
        have D0 : ∀ w', More wr w' → w'.cell? ⟨p', off' + (m - 1), none⟩ = some (.int .i64 y) := fun w' h => box_keep h hblt' d0
        go_wp2_with fail
        go_quiet (fail)
        go_wp2_with fail
        go_region_held3 (fun w' => More wr w') (first | exact More.refl _ | exact mC) (first | (go_at_call 175; refine (cmp_Compare _ _ _).mono ?_; rintro e w1 ⟨rfl, hb1⟩))
        go_wp2_with fail
        go_ret
        have h1 := val_cmp (limbs_isL a) (limbs_isL b) (k := m - 1) EQN.out (by rw [← HN.out]; omega) (fun j h1 h2 => HZ.out j (by omega) (by rw [HN.out]; exact h2)) (by rw [GX.out, GY.out]; exact hxy)
        rw [limbs_val, limbs_val] at h1
        exact ⟨ret_int (by rw [cmpI_lt h1]; exact cmpI_lt hxy), mC⟩
      by_cases hyx : y < x
      · have hne : (x != y) = true := by simp; omega
        have C0 : ∀ w', More wr w' → w'.cell? ⟨p, off + (m - 1), none⟩ = some (.int .i64 x) := fun w' h => box_keep h hblt c0
        have D0 : ∀ w', More wr w' → w'.cell? ⟨p', off' + (m - 1), none⟩ = some (.int .i64 y) := fun w' h => box_keep h hblt' d0
        go_wp2_with fail
        go_quiet (fail)
        go_wp2_with fail
        go_region_held3 (fun w' => More wr w') (first | exact More.refl _ | exact mC) (first | (go_at_call 175; refine (cmp_Compare _ _ _).mono ?_; rintro e w1 ⟨rfl, hb1⟩))
        go_wp2_with fail
        go_ret
        have h1 := val_cmp (limbs_isL b) (limbs_isL a) (k := m - 1) EQN.out.symm (by rw [← HN'.out]; omega) (fun j h1 h2 => (HZ.out j (by omega) (by rw [HN'.out]; exact h2)).symm) (by rw [GX.out, GY.out]; exact hyx)
        rw [limbs_val, limbs_val] at h1
        exact ⟨ret_int (by rw [cmpI_gt h1]; exact cmpI_gt hyx), mC⟩
      obtain rfl : x = y := by omega
      go_wp2_with fail
      go_quiet (fail)
      go_wp2_with fail
      go_roundw
      case rel => exact ⟨m - 1, by omega, by go_num, mC, Lib.hid (fun j h1 h2 => by
        by_cases hj : j = m - 1
        · subst hj; rw [GX.out, GY.out]
        · exact HZ.out j (by omega) h2)⟩
      case measure => simp [intOf]; omega
    · have hm0 : m = 0 := by omega
      subst hm0
      go_wp2_with fail
      go_ret
      have e : limbs a = limbs b := by
        apply List.ext_getElem?
        intro j
        by_cases hj : j < n
        · have := HZ.out j (by omega) hj
          rw [List.getD_eq_getElem?_getD, List.getD_eq_getElem?_getD, List.getElem?_eq_getElem (by rw [← HN.out]; exact hj), List.getElem?_eq_getElem (by rw [← HN'.out]; exact hj)] at this
          rw [List.getElem?_eq_getElem (by rw [← HN.out]; exact hj), List.getElem?_eq_getElem (by rw [← HN'.out]; exact hj)]
          simpa using this
        · rw [List.getElem?_eq_none (by rw [← HN.out]; omega), List.getElem?_eq_none (by rw [← HN'.out]; omega)]
      exact ⟨ret_int (cmpI_eq (by rw [limbs_inj e])).symm, mC⟩
set_option maxHeartbeats 3200000 in
theorem spec_l02Cmp (v v' : Value) (a b : Nat) (w : World) (hv : tInts.at w [v] (limbs a)) (hv' : tInts.at w [v'] (limbs b)) (hl : (limbs a).length ≤ 1048576) (hm : (limbs b).length ≤ 1048576) :
    Calls Tryz.prog 159 #[v, v'] w fun e w' => e = .returned (.int .i64 (cmpI a b)) ∧ More w w' := by
  obtain ⟨ao, cap, rfl⟩ := sl_len hv
  obtain ⟨ao', cap', rfl⟩ := sl_len hv'
  have HV := Lib.hid hv; clear hv
  have HV' := Lib.hid hv'; clear hv'
  obtain ⟨n, hn⟩ : ∃ n, n = (limbs a).length := ⟨_, rfl⟩
  obtain ⟨n', hn'⟩ : ∃ n', n' = (limbs b).length := ⟨_, rfl⟩
  rw [← hn] at HV hl ⊢
  rw [← hn'] at HV' hm ⊢
  have HN := Lib.hid hn; have HN' := Lib.hid hn'; clear hn hn'
  by_cases hlt : n < n'
  · have hi1 : (n : Int) < (n' : Int) := by omega
    have hne : ((n : Int) != (n' : Int)) = true := by simp; omega
    go_enter Tryz.func159, Tryz.ntmps159
    go_wp2_with fail
    go_ret
    exact ⟨ret_int (by rw [cmpI_lt (val_cmp_len (a := a) (b := b) (by rw [← HN.out, ← HN'.out]; exact hlt))]), mC⟩
  by_cases hgt : n' < n
  · have hi1 : ¬ (n : Int) < (n' : Int) := by omega
    have hi2 : (n' : Int) < (n : Int) := by omega
    have hne : ((n : Int) != (n' : Int)) = true := by simp; omega
    go_enter Tryz.func159, Tryz.ntmps159
    go_wp2_with fail
    go_ret
    exact ⟨ret_int (by rw [cmpI_gt (val_cmp_len (a := b) (b := a) (by rw [← HN.out, ← HN'.out]; exact hgt))]), mC⟩
  obtain rfl : n = n' := by omega
  clear hlt hgt
  go_enter Tryz.func159, Tryz.ntmps159
  go_wp2_with fail
  go_loopw [5] (fun i wr => ∃ m : Nat, m ≤ n ∧ i = .int .i64 ((m : Int) - 1) ∧ More w wr ∧ Hid (∀ j, m ≤ j → j < n → (limbs a).getD j 0 = (limbs b).getD j 0)) (fun i _ => (intOf i + 1).toNat)
  case atStart => exact ⟨n, Nat.le_refl _, by go_num, More.refl _, Lib.hid (fun j h1 h2 => by omega)⟩
  case round =>
    obtain ⟨m, hmn, rfl, hmr, HZ⟩ := hrel
    by_cases h0 : 0 < m
    · have hi1 : (m : Int) - 1 < (n : Int) := by omega
      have hi2 : (0 : Int) ≤ (m : Int) - 1 := by omega
      have hwk : IntKind.i64.wrap ((m : Int) - 1 - 1) = (m : Int) - 1 - 1 := IntWalk.i64_in _ (by omega)
      have e9 : ((m : Int) - 1).toNat = m - 1 := by omega
      obtain ⟨p, off, x, rfl, hblt, hx, ox, c0⟩ := int_el (Ty.at_more HV.out hmr) (k := m - 1) (by rw [← HN.out]; omega)
      obtain ⟨p', off', y, rfl, hblt', hy, oy, d0⟩ := int_el (Ty.at_more HV'.out hmr) (k := m - 1) (by rw [← HN'.out]; omega)
      have GX : Hid ((limbs a).getD (m - 1) 0 = x) := Lib.hid (by rw [List.getD_eq_getElem?_getD, hx]; rfl)
      have GY : Hid ((limbs b).getD (m - 1) 0 = y) := Lib.hid (by rw [List.getD_eq_getElem?_getD, hy]; rfl)
      clear hx ox hy oy
      have EQN : Hid ((limbs a).length = (limbs b).length) := Lib.hid (by rw [← HN.out, ← HN'.out])
      by_cases hxy : x < y
      · go_wp2_with fail
        go_quiet (fail)
        go_wp2_with fail
        go_ret
        have h1 := val_cmp (limbs_isL a) (limbs_isL b) (k := m - 1) EQN.out (by rw [← HN.out]; omega) (fun j h1 h2 => HZ.out j (by omega) (by rw [HN.out]; exact h2)) (by rw [GX.out, GY.out]; exact hxy)
        rw [limbs_val, limbs_val] at h1
        exact ⟨ret_int (by rw [cmpI_lt h1]), mC⟩
      by_cases hyx : y < x
      · go_wp2_with fail
        go_quiet (fail)
        go_wp2_with fail
        go_quiet (fail)
        go_wp2_with fail
        go_ret
        have h1 := val_cmp (limbs_isL b) (limbs_isL a) (k := m - 1) EQN.out.symm (by rw [← HN'.out]; omega) (fun j h1 h2 => (HZ.out j (by omega) (by rw [HN'.out]; exact h2)).symm) (by rw [GX.out, GY.out]; exact hyx)
        rw [limbs_val, limbs_val] at h1
        exact ⟨ret_int (by rw [cmpI_gt h1]), mC⟩
      obtain rfl : x = y := by omega
      go_wp2_with fail
      go_quiet (fail)
      go_wp2_with fail
      go_quiet (fail)
      go_wp2_with fail
      go_roundw
      case rel => exact ⟨m - 1, by omega, by go_num, mC, Lib.hid (fun j h1 h2 => by
        by_cases hj : j = m - 1
        · subst hj; rw [GX.out, GY.out]
        · exact HZ.out j (by omega) h2)⟩
      case measure => simp [intOf]; omega
    · have hm0 : m = 0 := by omega
      subst hm0
      go_wp2_with fail
      go_ret
      have e : limbs a = limbs b := by
        apply List.ext_getElem?
        intro j
        by_cases hj : j < n
        · have := HZ.out j (by omega) hj
          rw [List.getD_eq_getElem?_getD, List.getD_eq_getElem?_getD, List.getElem?_eq_getElem (by rw [← HN.out]; exact hj), List.getElem?_eq_getElem (by rw [← HN'.out]; exact hj)] at this
          rw [List.getElem?_eq_getElem (by rw [← HN.out]; exact hj), List.getElem?_eq_getElem (by rw [← HN'.out]; exact hj)]
          simpa using this
        · rw [List.getElem?_eq_none (by rw [← HN.out]; omega), List.getElem?_eq_none (by rw [← HN'.out]; omega)]
      exact ⟨ret_int (cmpI_eq (by rw [limbs_inj e])).symm, mC⟩
end Go.Proofs.YtnbefpfijaimjaaGreatDoor
