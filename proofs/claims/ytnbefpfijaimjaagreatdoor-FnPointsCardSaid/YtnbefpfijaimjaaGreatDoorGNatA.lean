/- Several texts laid together; each has its own word at its head. -/
import Derived.Test.YtnbefpfijaimjaaGreatDoorRows
import Derived.Test.YtnbefpfijaimjaaGreatDoorGNum
import Derived.Test.YtnbefpfijaimjaaGreatDoorApp
import Derived.Deep.RegionHeld3
import Derived.Deep.QuietTactic
import Derived.BigQuiet
import Derived.IntWalk
/- Natural numbers as limbs: single limbs, trimming, making, comparing: the program's and the reference's. -/
namespace Go.Proofs.YtnbefpfijaimjaaGreatDoor
open Go.RowKit
theorem infoInt_ : (Tryz.prog.info? 3).map (fun i => (i.zero, i.size, i.bytes)) = some (some (.int .i64 0), 1, 8) := by kernel_rfl
theorem limbs_step {n : Nat} (h : 0 < n) : limbs n = ((n % 1000000000 : Nat) : Int) :: limbs (n / 1000000000) := by
  have := limbs_cons (a := n % 1000000000) (r := n / 1000000000) (Nat.mod_lt _ (by decide)) (by omega)
  rw [this, Nat.mod_add_div]
theorem impl_limb (v : Value) (l : List Int) (i : Nat) (w : World) (hv : tInts.at w [v] l) :
    Calls Tryz.prog 146 #[v, .int .i64 (i : Int)] w fun e w' => e = .returned (.int .i64 (l.getD i 0)) ∧ More w w' := by
  obtain ⟨ao, cap, rfl⟩ := sl_len hv
  obtain ⟨n, hn⟩ : ∃ n, n = l.length := ⟨_, rfl⟩
  rw [← hn] at hv ⊢
  by_cases h : i < n
  · obtain ⟨b, off, x, rfl, hblt, hx, ox, c0⟩ := int_el hv (k := i) (by rw [← hn]; exact h)
    have hi1 : (i : Int) < (n : Int) := by omega
    have GX : Hid (l.getD i 0 = x) := Lib.hid (by rw [List.getD_eq_getElem?_getD, hx]; rfl)
    clear hv hn hx ox
    go_enter Tryz.func146, Tryz.ntmps146
    go_wp2_with fail
    go_ret
    exact ⟨ret_int GX.out.symm, mC⟩
  · have hi1 : ¬ (i : Int) < (n : Int) := by omega
    have GX : Hid (l.getD i 0 = 0) := Lib.hid (by rw [List.getD_eq_getElem?_getD, List.getElem?_eq_none (by omega)]; rfl)
    clear hv hn
    go_enter Tryz.func146, Tryz.ntmps146
    go_wp2_with fail
    go_ret
    exact ⟨ret_int GX.out.symm, mC⟩
theorem cmp_isNaN (x : Int) (w : World) : Calls Tryz.prog 188 #[.int .i64 x] w fun e w' => e = .returned (.bool false) ∧ More w w' := by
  go_enter Tryz.func188, Tryz.ntmps188
  go_wp2_with fail
  go_ret
  exact ⟨rfl, mC⟩
theorem cmp_Compare (x y : Int) (w : World) : Calls Tryz.prog 175 #[.int .i64 x, .int .i64 y] w fun e w' => e = .returned (.int .i64 (cmpI x y)) ∧ More w w' := by
  by_cases h1 : x < y
  · go_enter Tryz.func175, Tryz.ntmps175
    go_wp2_with (go_at_call 188; refine (cmp_isNaN _ _).mono ?_; rintro e w1 ⟨rfl, hb1⟩)
    go_ret
    exact ⟨ret_int (cmpI_lt h1).symm, mC⟩
  by_cases h2 : y < x
  · go_enter Tryz.func175, Tryz.ntmps175
    go_wp2_with (go_at_call 188; refine (cmp_isNaN _ _).mono ?_; rintro e w1 ⟨rfl, hb1⟩)
    go_ret
    exact ⟨ret_int (cmpI_gt h2).symm, mC⟩
  · go_enter Tryz.func175, Tryz.ntmps175
    go_wp2_with (go_at_call 188; refine (cmp_isNaN _ _).mono ?_; rintro e w1 ⟨rfl, hb1⟩)
    go_ret
    exact ⟨ret_int (cmpI_eq (by omega)).symm, mC⟩
set_option maxHeartbeats 1600000 in
theorem impl_trimmed (v : Value) (l : List Int) (N : Nat) (w : World) (hv : tInts.at w [v] l) (hl : l.length ≤ 1048576) (hok : IsL l) (hval : val l = N) :
    Calls Tryz.prog 88 #[v] w fun e w' => ∃ v', e = .returned v' ∧ More w w' ∧ tInts.at w' [v'] (limbs N) := by
  obtain ⟨ao, cap, rfl, k1, k2, k3, -⟩ := slRd_at hv
  have HV := Lib.hid hv; have HOK := Lib.hid hok; have HVAL := Lib.hid hval; clear hv hok hval
  have hcap : cap ≤ 9223372036854775807 := by unfold maxLen at k2; omega
  clear k2
  obtain ⟨n, hn⟩ : ∃ n, n = l.length := ⟨_, rfl⟩
  rw [← hn] at HV hl k1 ⊢
  have HN := Lib.hid hn; clear hn
  go_enter Tryz.func88, Tryz.ntmps88
  go_wp2_with fail
  go_loopw [3] (fun i wr => ∃ m : Nat, m ≤ n ∧ i = .int .i64 m ∧ More w wr ∧ Hid (∀ j, m ≤ j → j < n → l.getD j 0 = 0)) (fun i _ => (intOf i).toNat)
  case atStart => exact ⟨n, Nat.le_refl _, rfl, More.refl _, Lib.hid (fun j h1 h2 => by omega)⟩
  case round =>
    obtain ⟨m, hmn, rfl, hm, HZ⟩ := hrel
    by_cases h0 : 0 < m
    · have hi0 : (0 : Int) < (m : Int) := by omega
      have hi1 : (m : Int) - 1 < (n : Int) := by omega
      have hi2 : (0 : Int) ≤ (m : Int) - 1 := by omega
      have hwk : IntKind.i64.wrap ((m : Int) - 1) = (m : Int) - 1 := IntWalk.i64_in _ (by omega)
      have e9 : ((m : Int) - 1).toNat = m - 1 := by omega
      obtain ⟨b, off, x, rfl, hblt, hx, ox, c0⟩ := int_el (Ty.at_more HV.out hm) (k := m - 1) (by rw [← HN.out]; omega)
      have HX := Lib.hid hx; clear hx ox
      by_cases hz : x = 0
      · subst hz
        go_wp2_with fail
        go_roundw
        case rel => exact ⟨m - 1, by omega, by go_num, mC, Lib.hid (fun j h1 h2 => by
          by_cases hj : j = m - 1
          · subst hj; rw [List.getD_eq_getElem?_getD, HX.out]; rfl
          · exact HZ.out j (by omega) h2)⟩
        case measure => simp [intOf]; omega
      · have hz' : (x == 0) = false := by simp [hz]
        go_wp2_with fail
        go_ret
        refine ⟨_, rfl, mC, ?_⟩
        have h2 := trim_limbs HOK.out HVAL.out (m := m) (by rw [← HN.out]; exact hmn) (fun j h1 h2 => HZ.out j h1 (by rw [HN.out]; exact h2)) (.inr (by rw [List.getD_eq_getElem?_getD, HX.out]; exact hz))
        rw [← h2]
        exact sl_take (Ty.at_more HV.out mC) hmn
    · have hi0 : ¬ (0 : Int) < (m : Int) := by omega
      have hm0 : m = 0 := by omega
      subst hm0
      go_wp2_with fail
      go_ret
      refine ⟨_, rfl, mC, ?_⟩
      have h2 := trim_limbs HOK.out HVAL.out (m := 0) (by omega) (fun j h1 h2 => HZ.out j h1 (by rw [HN.out]; exact h2)) (.inl rfl)
      rw [← h2]
      exact sl_take (Ty.at_more HV.out mC) hmn
set_option maxHeartbeats 1600000 in
theorem spec_l02Trim (v : Value) (l : List Int) (N : Nat) (w : World) (hv : tInts.at w [v] l) (hl : l.length ≤ 1048576) (hok : IsL l) (hval : val l = N) :
    Calls Tryz.prog 79 #[v] w fun e w' => ∃ v', e = .returned v' ∧ More w w' ∧ tInts.at w' [v'] (limbs N) := by
  obtain ⟨ao, cap, rfl, k1, k2, k3, -⟩ := slRd_at hv
  have HV := Lib.hid hv; have HOK := Lib.hid hok; have HVAL := Lib.hid hval; clear hv hok hval
  have hcap : cap ≤ 9223372036854775807 := by unfold maxLen at k2; omega
  clear k2
  obtain ⟨n, hn⟩ : ∃ n, n = l.length := ⟨_, rfl⟩
  rw [← hn] at HV hl k1 ⊢
  have HN := Lib.hid hn; clear hn
  go_enter Tryz.func79, Tryz.ntmps79
  go_wp2_with fail
  go_loopw [3] (fun i wr => ∃ m : Nat, m ≤ n ∧ i = .int .i64 m ∧ More w wr ∧ Hid (∀ j, m ≤ j → j < n → l.getD j 0 = 0)) (fun i _ => (intOf i).toNat)
  case atStart => exact ⟨n, Nat.le_refl _, rfl, More.refl _, Lib.hid (fun j h1 h2 => by omega)⟩
  case round =>
    obtain ⟨m, hmn, rfl, hm, HZ⟩ := hrel
    by_cases h0 : 0 < m
    · have hi0 : (0 : Int) < (m : Int) := by omega
      have hi1 : (m : Int) - 1 < (n : Int) := by omega
      have hi2 : (0 : Int) ≤ (m : Int) - 1 := by omega
      have hwk : IntKind.i64.wrap ((m : Int) - 1) = (m : Int) - 1 := IntWalk.i64_in _ (by omega)
      have e9 : ((m : Int) - 1).toNat = m - 1 := by omega
      obtain ⟨b, off, x, rfl, hblt, hx, ox, c0⟩ := int_el (Ty.at_more HV.out hm) (k := m - 1) (by rw [← HN.out]; omega)
      have HX := Lib.hid hx; clear hx ox
      by_cases hz : x = 0
      · subst hz
        go_wp2_with fail
        go_roundw
        case rel => exact ⟨m - 1, by omega, by go_num, mC, Lib.hid (fun j h1 h2 => by
          by_cases hj : j = m - 1
          · subst hj; rw [List.getD_eq_getElem?_getD, HX.out]; rfl
          · exact HZ.out j (by omega) h2)⟩
        case measure => simp [intOf]; omega
      · have hz' : (x == 0) = false := by simp [hz]
        go_wp2_with fail
        go_ret
        refine ⟨_, rfl, mC, ?_⟩
        have h2 := trim_limbs HOK.out HVAL.out (m := m) (by rw [← HN.out]; exact hmn) (fun j h1 h2 => HZ.out j h1 (by rw [HN.out]; exact h2)) (.inr (by rw [List.getD_eq_getElem?_getD, HX.out]; exact hz))
        rw [← h2]
        exact sl_take (Ty.at_more HV.out mC) hmn
    · have hi0 : ¬ (0 : Int) < (m : Int) := by omega
      have hm0 : m = 0 := by omega
      subst hm0
      go_wp2_with fail
      go_ret
      refine ⟨_, rfl, mC, ?_⟩
      have h2 := trim_limbs HOK.out HVAL.out (m := 0) (by omega) (fun j h1 h2 => HZ.out j h1 (by rw [HN.out]; exact h2)) (.inl rfl)
      rw [← h2]
      exact sl_take (Ty.at_more HV.out mC) hmn
set_option maxHeartbeats 1600000 in
theorem impl_natOf (N : Nat) (w : World) (hN : N < 9223372036854775808) :
    Calls Tryz.prog 148 #[.int .i64 (N : Int)] w fun e w' => ∃ v', e = .returned v' ∧ More w w' ∧ tInts.at w' [v'] (limbs N) := by
  obtain ⟨i0, hi, hz0, hz1, hz2⟩ := info_parts infoInt_
  go_enter Tryz.func148, Tryz.ntmps148
  go_wp2_with fail
  go_loopw [0, 3] (fun i v wr => ∃ (m : Nat) (xs : List Int), m ≤ N ∧ i = .int .i64 (m : Int) ∧ More w wr ∧ Hid (FlatOwn fInt w.heap.size 3 wr v xs) ∧ Hid (limbs N = xs ++ limbs m)) (fun i _ _ => (intOf i).toNat)
  case atStart => exact ⟨N, [], Nat.le_refl _, rfl, mC, Lib.hid (FlatOwn.lit (Nat.le_refl _)), Lib.hid rfl⟩
  case round =>
    obtain ⟨m, xs, hmN, rfl, hm, HL, HE⟩ := hrel
    by_cases h0 : 0 < m
    · have hi0 : (0 : Int) < (m : Int) := by omega
      have e1 : (m : Int).tmod 1000000000 = ((m % 1000000000 : Nat) : Int) := by rw [Int.tmod_eq_emod_of_nonneg (by omega)]; omega
      have e2 : (m : Int).tdiv 1000000000 = ((m / 1000000000 : Nat) : Int) := by rw [Int.tdiv_eq_ediv_of_nonneg (by omega)]; omega
      have HLen : Hid (xs.length ≤ 2097152) := Lib.hid (by
        have h1 := congrArg List.length HE.out
        have h2 : (limbs N).length ≤ 3 := limbs_len_le.2 (by have h9 : bp 3 = 1000000000000000000000000000 := (by decide); omega)
        rw [List.length_append] at h1; omega)
      go_wp2_with (at_builtin; refine wpList_pushFlat fInt wr rfl _ _ 22 rfl w.heap.size 3 i0 (.int .i64 0) 8 Tryz.underlying22 hi hz0 hz1 hz2 rfl (by decide) rfl HL.out mC rfl (by simp) (y := ((m % 1000000000 : Nat) : Int)) (by simp [fInt]) (In64.small (by omega)) HLen (by decide) (Lib.hid hm.size) ?_)
      intro v' w2 hl2 hmw
      go_wp2_with fail
      go_roundw
      case rel => exact ⟨m / 1000000000, _, by omega, by congr 1; try omega, hmw _ rfl mC, Lib.hid hl2, Lib.hid (by rw [HE.out, limbs_step h0, List.append_assoc]; rfl)⟩
      case measure => simp [intOf]; omega
    · have hm0 : m = 0 := by omega
      subst hm0
      go_wp2_with fail
      go_ret
      exact ⟨_, rfl, mC, by rw [HE.out, limbs_zero, List.append_nil]; exact HL.out.at⟩
set_option maxHeartbeats 1600000 in
theorem spec_NatOf (N : Nat) (w : World) (hN : N < 9223372036854775808) :
    Calls Tryz.prog 130 #[.int .i64 (N : Int)] w fun e w' => ∃ v', e = .returned v' ∧ More w w' ∧ tInts.at w' [v'] (limbs N) := by
  obtain ⟨i0, hi, hz0, hz1, hz2⟩ := info_parts infoInt_
  go_enter Tryz.func130, Tryz.ntmps130
  go_wp2_with fail
  go_loopw [0, 3] (fun i v wr => ∃ (m : Nat) (xs : List Int), m ≤ N ∧ i = .int .i64 (m : Int) ∧ More w wr ∧ Hid (FlatOwn fInt w.heap.size 3 wr v xs) ∧ Hid (limbs N = xs ++ limbs m)) (fun i _ _ => (intOf i).toNat)
  case atStart => exact ⟨N, [], Nat.le_refl _, rfl, mC, Lib.hid (FlatOwn.lit (Nat.le_refl _)), Lib.hid rfl⟩
  case round =>
    obtain ⟨m, xs, hmN, rfl, hm, HL, HE⟩ := hrel
    by_cases h0 : 0 < m
    · have hi0 : (0 : Int) < (m : Int) := by omega
      have e1 : (m : Int).tmod 1000000000 = ((m % 1000000000 : Nat) : Int) := by rw [Int.tmod_eq_emod_of_nonneg (by omega)]; omega
      have e2 : (m : Int).tdiv 1000000000 = ((m / 1000000000 : Nat) : Int) := by rw [Int.tdiv_eq_ediv_of_nonneg (by omega)]; omega
      have HLen : Hid (xs.length ≤ 2097152) := Lib.hid (by
        have h1 := congrArg List.length HE.out
        have h2 : (limbs N).length ≤ 3 := limbs_len_le.2 (by have h9 : bp 3 = 1000000000000000000000000000 := (by decide); omega)
        rw [List.length_append] at h1; omega)
      go_wp2_with (at_builtin; refine wpList_pushFlat fInt wr rfl _ _ 22 rfl w.heap.size 3 i0 (.int .i64 0) 8 Tryz.underlying22 hi hz0 hz1 hz2 rfl (by decide) rfl HL.out mC rfl (by simp) (y := ((m % 1000000000 : Nat) : Int)) (by simp [fInt]) (In64.small (by omega)) HLen (by decide) (Lib.hid hm.size) ?_)
      intro v' w2 hl2 hmw
      go_wp2_with fail
      go_roundw
      case rel => exact ⟨m / 1000000000, _, by omega, by congr 1; try omega, hmw _ rfl mC, Lib.hid hl2, Lib.hid (by rw [HE.out, limbs_step h0, List.append_assoc]; rfl)⟩
      case measure => simp [intOf]; omega
    · have hm0 : m = 0 := by omega
      subst hm0
      go_wp2_with fail
      go_ret
      exact ⟨_, rfl, mC, by rw [HE.out, limbs_zero, List.append_nil]; exact HL.out.at⟩
set_option maxHeartbeats 3200000 in
theorem impl_natCmp (v v' : Value) (a b : Nat) (w : World) (hv : tInts.at w [v] (limbs a)) (hv' : tInts.at w [v'] (limbs b)) (hl : (limbs a).length ≤ 1048576) (hm : (limbs b).length ≤ 1048576) :
    Calls Tryz.prog 142 #[v, v'] w fun e w' => e = .returned (.int .i64 (cmpI a b)) ∧ More w w' := by
  obtain ⟨ao, cap, rfl⟩ := sl_len hv
  obtain ⟨ao', cap', rfl⟩ := sl_len hv'
  have HV := Lib.hid hv; clear hv
  have HV' := Lib.hid hv'; clear hv'
  obtain ⟨n, hn⟩ : ∃ n, n = (limbs a).length := ⟨_, rfl⟩
  obtain ⟨n', hn'⟩ : ∃ n', n' = (limbs b).length := ⟨_, rfl⟩
  rw [← hn] at HV hl ⊢
  rw [← hn'] at HV' hm ⊢
  have HN := Lib.hid hn; have HN' := Lib.hid hn'; clear hn hn'
  by_cases hlt : n < n'
  · have hi1 : (n : Int) < (n' : Int) := by omega
    have hne : ((n : Int) != (n' : Int)) = true := by simp; omega
    go_enter Tryz.func142, Tryz.ntmps142
    go_wp2_with (go_at_call 175; refine (cmp_Compare _ _ _).mono ?_; rintro e w1 ⟨rfl, hb1⟩)
    go_ret
    exact ⟨ret_int (by rw [cmpI_lt (val_cmp_len (a := a) (b := b) (by rw [← HN.out, ← HN'.out]; exact hlt))]; exact cmpI_lt hi1), mC⟩
  by_cases hgt : n' < n
  · have hi1 : ¬ (n : Int) < (n' : Int) := by omega
    have hi2 : (n' : Int) < (n : Int) := by omega
    have hne : ((n : Int) != (n' : Int)) = true := by simp; omega
    go_enter Tryz.func142, Tryz.ntmps142
    go_wp2_with (go_at_call 175; refine (cmp_Compare _ _ _).mono ?_; rintro e w1 ⟨rfl, hb1⟩)
    go_ret
    exact ⟨ret_int (by rw [cmpI_gt (val_cmp_len (a := b) (b := a) (by rw [← HN.out, ← HN'.out]; exact hgt))]; exact cmpI_gt hi2), mC⟩
  obtain rfl : n = n' := by omega
  clear hlt hgt
  go_enter Tryz.func142, Tryz.ntmps142
  go_wp2_with fail
  go_loopw [5] (fun i wr => ∃ m : Nat, m ≤ n ∧ i = .int .i64 ((m : Int) - 1) ∧ More w wr ∧ Hid (∀ j, m ≤ j → j < n → (limbs a).getD j 0 = (limbs b).getD j 0)) (fun i _ => (intOf i + 1).toNat)
  case atStart => exact ⟨n, Nat.le_refl _, by go_num, More.refl _, Lib.hid (fun j h1 h2 => by omega)⟩
  case round =>
    obtain ⟨m, hmn, rfl, hmr, HZ⟩ := hrel
    by_cases h0 : 0 < m
    · have hi1 : (m : Int) - 1 < (n : Int) := by omega
      have hi2 : (0 : Int) ≤ (m : Int) - 1 := by omega
      have hwk : IntKind.i64.wrap ((m : Int) - 1 - 1) = (m : Int) - 1 - 1 := IntWalk.i64_in _ (by omega)
      have e9 : ((m : Int) - 1).toNat = m - 1 := by omega
      obtain ⟨p, off, x, rfl, hblt, hx, ox, c0⟩ := int_el (Ty.at_more HV.out hmr) (k := m - 1) (by rw [← HN.out]; omega)
      obtain ⟨p', off', y, rfl, hblt', hy, oy, d0⟩ := int_el (Ty.at_more HV'.out hmr) (k := m - 1) (by rw [← HN'.out]; omega)
      have GX : Hid ((limbs a).getD (m - 1) 0 = x) := Lib.hid (by rw [List.getD_eq_getElem?_getD, hx]; rfl)
      have GY : Hid ((limbs b).getD (m - 1) 0 = y) := Lib.hid (by rw [List.getD_eq_getElem?_getD, hy]; rfl)
      clear hx ox hy oy
      have EQN : Hid ((limbs a).length = (limbs b).length) := Lib.hid (by rw [← HN.out, ← HN'.out])
      by_cases hxy : x < y
      · have hne : (x != y) = true := by simp; omega
        have C0 : ∀ w', More wr w' → w'.cell? ⟨p, off + (m - 1), none⟩ = some (.int .i64 x) := fun w' h => box_keep h hblt c0
        have D0 : ∀ w', More wr w' → w'.cell? ⟨p', off' + (m - 1), none⟩ = some (.int .i64 y) := fun w' h => box_keep h hblt' d0
        go_wp2_with fail
        go_quiet (fail)
        go_wp2_with fail
        go_region_held3 (fun w' => More wr w') (first | exact More.refl _ | exact mC) (first | (go_at_call 175; refine (cmp_Compare _ _ _).mono ?_; rintro e w1 ⟨rfl, hb1⟩))
        go_wp2_with fail
        go_ret
        have h1 := val_cmp (limbs_isL a) (limbs_isL b) (k := m - 1) EQN.out (by rw [← HN.out]; omega) (fun j h1 h2 => HZ.out j (by omega) (by rw [HN.out]; exact h2)) (by rw [GX.out, GY.out]; exact hxy)
        rw [limbs_val, limbs_val] at h1
        exact ⟨ret_int (by rw [cmpI_lt h1]; exact cmpI_lt hxy), mC⟩
      by_cases hyx : y < x
      · have hne : (x != y) = true := by simp; omega
        have C0 : ∀ w', More wr w' → w'.cell? ⟨p, off + (m - 1), none⟩ = some (.int .i64 x) := fun w' h => box_keep h hblt c0
        have D0 : ∀ w', More wr w' → w'.cell? ⟨p', off' + (m - 1), none⟩ = some (.int .i64 y) := fun w' h => box_keep h hblt' d0
        go_wp2_with fail
        go_quiet (fail)
        go_wp2_with fail
        go_region_held3 (fun w' => More wr w') (first | exact More.refl _ | exact mC) (first | (go_at_call 175; refine (cmp_Compare _ _ _).mono ?_; rintro e w1 ⟨rfl, hb1⟩))
        go_wp2_with fail
        go_ret
        have h1 := val_cmp (limbs_isL b) (limbs_isL a) (k := m - 1) EQN.out.symm (by rw [← HN'.out]; omega) (fun j h1 h2 => (HZ.out j (by omega) (by rw [HN'.out]; exact h2)).symm) (by rw [GX.out, GY.out]; exact hyx)
        rw [limbs_val, limbs_val] at h1
        exact ⟨ret_int (by rw [cmpI_gt h1]; exact cmpI_gt hyx), mC⟩
      obtain rfl : x = y := by omega
      go_wp2_with fail
      go_quiet (fail)
      go_wp2_with fail
      go_roundw
      case rel => exact ⟨m - 1, by omega, by go_num, mC, Lib.hid (fun j h1 h2 => by
        by_cases hj : j = m - 1
        · subst hj; rw [GX.out, GY.out]
        · exact HZ.out j (by omega) h2)⟩
      case measure => simp [intOf]; omega
    · have hm0 : m = 0 := by omega
      subst hm0
      go_wp2_with fail
      go_ret
      have e : limbs a = limbs b := by
        apply List.ext_getElem?
        intro j
        by_cases hj : j < n
        · have := HZ.out j (by omega) hj
          rw [List.getD_eq_getElem?_getD, List.getD_eq_getElem?_getD, List.getElem?_eq_getElem (by rw [← HN.out]; exact hj), List.getElem?_eq_getElem (by rw [← HN'.out]; exact hj)] at this
          rw [List.getElem?_eq_getElem (by rw [← HN.out]; exact hj), List.getElem?_eq_getElem (by rw [← HN'.out]; exact hj)]
          simpa using this
        · rw [List.getElem?_eq_none (by rw [← HN.out]; omega), List.getElem?_eq_none (by rw [← HN'.out]; omega)]
      exact ⟨ret_int (cmpI_eq (by rw [limbs_inj e])).symm, mC⟩
set_option maxHeartbeats 3200000 in
theorem spec_l02Cmp (v v' : Value) (a b : Nat) (w : World) (hv : tInts.at w [v] (limbs a)) (hv' : tInts.at w [v'] (limbs b)) (hl : (limbs a).length ≤ 1048576) (hm : (limbs b).length ≤ 1048576) :
    Calls Tryz.prog 159 #[v, v'] w fun e w' => e = .returned (.int .i64 (cmpI a b)) ∧ More w w' := by
  obtain ⟨ao, cap, rfl⟩ := sl_len hv
  obtain ⟨ao', cap', rfl⟩ := sl_len hv'
  have HV := Lib.hid hv; clear hv
  have HV' := Lib.hid hv'; clear hv'
  obtain ⟨n, hn⟩ : ∃ n, n = (limbs a).length := ⟨_, rfl⟩
  obtain ⟨n', hn'⟩ : ∃ n', n' = (limbs b).length := ⟨_, rfl⟩
  rw [← hn] at HV hl ⊢
  rw [← hn'] at HV' hm ⊢
  have HN := Lib.hid hn; have HN' := Lib.hid hn'; clear hn hn'
  by_cases hlt : n < n'
  · have hi1 : (n : Int) < (n' : Int) := by omega
    have hne : ((n : Int) != (n' : Int)) = true := by simp; omega
    go_enter Tryz.func159, Tryz.ntmps159
    go_wp2_with fail
    go_ret
    exact ⟨ret_int (by rw [cmpI_lt (val_cmp_len (a := a) (b := b) (by rw [← HN.out, ← HN'.out]; exact hlt))]), mC⟩
  by_cases hgt : n' < n
  · have hi1 : ¬ (n : Int) < (n' : Int) := by omega
    have hi2 : (n' : Int) < (n : Int) := by omega
    have hne : ((n : Int) != (n' : Int)) = true := by simp; omega
    go_enter Tryz.func159, Tryz.ntmps159
    go_wp2_with fail
    go_ret
    exact ⟨ret_int (by rw [cmpI_gt (val_cmp_len (a := b) (b := a) (by rw [← HN.out, ← HN'.out]; exact hgt))]), mC⟩
  obtain rfl : n = n' := by omega
  clear hlt hgt
  go_enter Tryz.func159, Tryz.ntmps159
  go_wp2_with fail
  go_loopw [5] (fun i wr => ∃ m : Nat, m ≤ n ∧ i = .int .i64 ((m : Int) - 1) ∧ More w wr ∧ Hid (∀ j, m ≤ j → j < n → (limbs a).getD j 0 = (limbs b).getD j 0)) (fun i _ => (intOf i + 1).toNat)
  case atStart => exact ⟨n, Nat.le_refl _, by go_num, More.refl _, Lib.hid (fun j h1 h2 => by omega)⟩
  case round =>
    obtain ⟨m, hmn, rfl, hmr, HZ⟩ := hrel
    by_cases h0 : 0 < m
    · have hi1 : (m : Int) - 1 < (n : Int) := by omega
      have hi2 : (0 : Int) ≤ (m : Int) - 1 := by omega
      have hwk : IntKind.i64.wrap ((m : Int) - 1 - 1) = (m : Int) - 1 - 1 := IntWalk.i64_in _ (by omega)
      have e9 : ((m : Int) - 1).toNat = m - 1 := by omega
      obtain ⟨p, off, x, rfl, hblt, hx, ox, c0⟩ := int_el (Ty.at_more HV.out hmr) (k := m - 1) (by rw [← HN.out]; omega)
      obtain ⟨p', off', y, rfl, hblt', hy, oy, d0⟩ := int_el (Ty.at_more HV'.out hmr) (k := m - 1) (by rw [← HN'.out]; omega)
      have GX : Hid ((limbs a).getD (m - 1) 0 = x) := Lib.hid (by rw [List.getD_eq_getElem?_getD, hx]; rfl)
      have GY : Hid ((limbs b).getD (m - 1) 0 = y) := Lib.hid (by rw [List.getD_eq_getElem?_getD, hy]; rfl)
      clear hx ox hy oy
      have EQN : Hid ((limbs a).length = (limbs b).length) := Lib.hid (by rw [← HN.out, ← HN'.out])
      by_cases hxy : x < y
      · go_wp2_with fail
        go_quiet (fail)
        go_wp2_with fail
        go_ret
        have h1 := val_cmp (limbs_isL a) (limbs_isL b) (k := m - 1) EQN.out (by rw [← HN.out]; omega) (fun j h1 h2 => HZ.out j (by omega) (by rw [HN.out]; exact h2)) (by rw [GX.out, GY.out]; exact hxy)
        rw [limbs_val, limbs_val] at h1
        exact ⟨ret_int (by rw [cmpI_lt h1]), mC⟩
      by_cases hyx : y < x
      · go_wp2_with fail
        go_quiet (fail)
        go_wp2_with fail
        go_quiet (fail)
        go_wp2_with fail
        go_ret
        have h1 := val_cmp (limbs_isL b) (limbs_isL a) (k := m - 1) EQN.out.symm (by rw [← HN'.out]; omega) (fun j h1 h2 => (HZ.out j (by omega) (by rw [HN'.out]; exact h2)).symm) (by rw [GX.out, GY.out]; exact hyx)
        rw [limbs_val, limbs_val] at h1
        exact ⟨ret_int (by rw [cmpI_gt h1]), mC⟩
      obtain rfl : x = y := by omega
      go_wp2_with fail
      go_quiet (fail)
      go_wp2_with fail
      go_quiet (fail)
      go_wp2_with fail
      go_roundw
      case rel => exact ⟨m - 1, by omega, by go_num, mC, Lib.hid (fun j h1 h2 => by
        by_cases hj : j = m - 1
        · subst hj; rw [GX.out, GY.out]
        · exact HZ.out j (by omega) h2)⟩
      case measure => simp [intOf]; omega
    · have hm0 : m = 0 := by omega
      subst hm0
      go_wp2_with fail
      go_ret
      have e : limbs a = limbs b := by
        apply List.ext_getElem?
        intro j
        by_cases hj : j < n
        · have := HZ.out j (by omega) hj
          rw [List.getD_eq_getElem?_getD, List.getD_eq_getElem?_getD, List.getElem?_eq_getElem (by rw [← HN.out]; exact hj), List.getElem?_eq_getElem (by rw [← HN'.out]; exact hj)] at this
          rw [List.getElem?_eq_getElem (by rw [← HN.out]; exact hj), List.getElem?_eq_getElem (by rw [← HN'.out]; exact hj)]
          simpa using this
        · rw [List.getElem?_eq_none (by rw [← HN.out]; omega), List.getElem?_eq_none (by rw [← HN'.out]; omega)]
      exact ⟨ret_int (cmpI_eq (by rw [limbs_inj e])).symm, mC⟩
end Go.Proofs.YtnbefpfijaimjaaGreatDoor
/- Natural numbers as limbs: sum and difference: the program's and the reference's. -/
namespace Go.Proofs.YtnbefpfijaimjaaGreatDoor
open Go.RowKit
theorem impl_limb_ (v : Value) (l : List Int) (i : Nat) (x : Int) (w : World) (hv : tInts.at w [v] l) (hx : l.getD i 0 = x) :
    Calls Tryz.prog 146 #[v, .int .i64 (i : Int)] w fun e w' => e = .returned (.int .i64 x) ∧ More w w' := by
  subst hx
  exact impl_limb v l i w hv
set_option maxRecDepth 4000 in
set_option maxHeartbeats 6400000 in
theorem impl_natAdd (v v' : Value) (a b : Nat) (w : World) (hv : tInts.at w [v] (limbs a)) (hv' : tInts.at w [v'] (limbs b)) (hl : (limbs a).length ≤ 4096) (hm : (limbs b).length ≤ 4096) :
    Calls Tryz.prog 141 #[v, v'] w fun e w' => ∃ u, e = .returned u ∧ More w w' ∧ tInts.at w' [u] (limbs (a + b)) := by
  obtain ⟨ao, cap, rfl⟩ := sl_len hv
  obtain ⟨ao', cap', rfl⟩ := sl_len hv'
  have HV := Lib.hid hv; clear hv
  have HV' := Lib.hid hv'; clear hv'
  obtain ⟨n, hn⟩ : ∃ n, n = (limbs a).length := ⟨_, rfl⟩
  obtain ⟨n', hn'⟩ : ∃ n', n' = (limbs b).length := ⟨_, rfl⟩
  rw [← hn] at HV hl ⊢
  rw [← hn'] at HV' hm ⊢
  have HN := Lib.hid hn; have HN' := Lib.hid hn'; clear hn hn'
  obtain ⟨i0, hi, hz0, hz1, hz2⟩ := info_parts infoInt_
  go_enter Tryz.func141, Tryz.ntmps141
  go_wp2_with (at_make; refine wpList_make_own _ rfl _ _ 22 rfl w.heap.size 3 i0 (.int .i64 0) 1 Tryz.underlying22 hi hz0 hz1 _ _ _ (max n n' + 1) rfl rfl ?_ ?_ ?_ ?_ ?_)
  all_goals first | omega | (rw [hz2]; omega) | (unfold maxLen; omega) | exact Nat.le_refl _ | skip
  all_goals
    intro w1 hown hgr
    have hb1 : More w w1 := Turns.more ((Turns.refl _ _).grown hgr (by simp))
    have HO : Hid (FlatOwn fInt w.heap.size 3 w1 (.slice (some ⟨w.heap.size, 0, none⟩) 0 _) []) := Lib.hid (FlatOwn.made hown)
    clear hown hgr
    go_wp2_with fail
    go_loopw [5, 6, 7] (fun v c i wr => ∃ (k : Nat) (xs : List Int) (c0 : Int), k ≤ max n n' + 1 ∧ i = .int .i64 k ∧ c = .int .i64 c0 ∧ (c0 = 0 ∨ c0 = 1) ∧ More w wr ∧ Hid (FlatOwn fInt w.heap.size 3 wr v xs) ∧ Hid (AddInv a b k xs c0)) (fun _ _ i _ => max n n' + 1 - (intOf i).toNat)
    case atStart => exact ⟨0, [], 0, Nat.zero_le _, rfl, rfl, .inl rfl, hb1, HO, Lib.hid (AddInv.start a b)⟩
    case round =>
      clear HO hb1
      obtain ⟨k, xs, c0, hk, rfl, rfl, hc0, hm, HL, HI⟩ := hrel
      have hgx := limbs_get a k; have hgy := limbs_get b k
      obtain ⟨x, ex⟩ : ∃ x, (limbs a).getD k 0 = x := ⟨_, rfl⟩
      obtain ⟨y, ey⟩ : ∃ y, (limbs b).getD k 0 = y := ⟨_, rfl⟩
      rw [ex] at hgx; rw [ey] at hgy
      have GX := Lib.hid ex; have GY := Lib.hid ey; clear ex ey
      have HLen : Hid (xs.length ≤ 2097152) := Lib.hid (by rw [HI.out.len]; omega)
      by_cases ha : k < n
      · have ha1 : (k : Int) < (n : Int) := by omega
        have hs0 : 0 ≤ x + y + c0 := by omega
        obtain ⟨q, e1⟩ : ∃ q, (x + y + c0) % 1000000000 = q := ⟨_, rfl⟩
        obtain ⟨r, e2⟩ : ∃ r, (x + y + c0) / 1000000000 = r := ⟨_, rfl⟩
        have hq : 0 ≤ q ∧ q < 1000000000 := by omega
        have hr : r = 0 ∨ r = 1 := by omega
        have hk1 : k + 1 ≤ max n n' + 1 := by
          rcases HI.out.top with h | h
          · have h7 := HN.out; have h8 := HN'.out; omega
          · have h7 := HN.out; have h8 := HN'.out; omega
        have HI2 : Hid (AddInv a b (k + 1) (xs ++ [q]) r) := Lib.hid (by rw [← e1, ← e2, ← tm_eq hs0, ← td_eq hs0]; exact HI.out.step (by rw [← HN.out, ← HN'.out]; exact .inl ha) (by rw [GX.out, GY.out]; try omega))
        go_wp2_with (first | (go_at_call 146; (with_reducible refine (impl_limb_ (.slice ao n cap) (limbs a) k x _ (Ty.at_more HV.out mC) GX.out).mono ?_); rintro e w3 ⟨rfl, hb3⟩) | (go_at_call 146; (with_reducible refine (impl_limb_ (.slice ao' n' cap') (limbs b) k y _ (Ty.at_more HV'.out mC) GY.out).mono ?_); rintro e w4 ⟨rfl, hb4⟩) | (at_builtin; refine wpList_pushFlat fInt wr rfl _ _ 22 rfl w.heap.size 3 i0 (.int .i64 0) 8 Tryz.underlying22 hi hz0 hz1 hz2 rfl (by decide) rfl HL.out mC rfl (by simp) (y := q) (by simp [fInt]) (In64.small (by omega)) HLen (by decide) (Lib.hid hm.size) ?_))
        intro v' w9 hl2 hmw
        go_wp2_with fail
        go_roundw
        case rel => exact ⟨k + 1, _, r, hk1, by go_num, (by first | rfl | rw [e2]), hr, hmw _ rfl mC, Lib.hid hl2, HI2⟩
        case measure => simp [intOf]; omega
      have ha1 : ¬ (k : Int) < (n : Int) := by omega
      by_cases hb : k < n'
      · have hb1 : (k : Int) < (n' : Int) := by omega
        first | (exfalso; omega) | skip
        all_goals
          have hs0 : 0 ≤ x + y + c0 := by omega
          obtain ⟨q, e1⟩ : ∃ q, (x + y + c0) % 1000000000 = q := ⟨_, rfl⟩
          obtain ⟨r, e2⟩ : ∃ r, (x + y + c0) / 1000000000 = r := ⟨_, rfl⟩
          have hq : 0 ≤ q ∧ q < 1000000000 := by omega
          have hr : r = 0 ∨ r = 1 := by omega
          have hk1 : k + 1 ≤ max n n' + 1 := by
            rcases HI.out.top with h | h
            · have h7 := HN.out; have h8 := HN'.out; omega
            · have h7 := HN.out; have h8 := HN'.out; omega
          have HI2 : Hid (AddInv a b (k + 1) (xs ++ [q]) r) := Lib.hid (by rw [← e1, ← e2, ← tm_eq hs0, ← td_eq hs0]; exact HI.out.step (by rw [← HN.out, ← HN'.out]; exact .inr (.inl hb)) (by rw [GX.out, GY.out]; try omega))
          go_wp2_with (first | (go_at_call 146; (with_reducible refine (impl_limb_ (.slice ao n cap) (limbs a) k x _ (Ty.at_more HV.out mC) GX.out).mono ?_); rintro e w3 ⟨rfl, hb3⟩) | (go_at_call 146; (with_reducible refine (impl_limb_ (.slice ao' n' cap') (limbs b) k y _ (Ty.at_more HV'.out mC) GY.out).mono ?_); rintro e w4 ⟨rfl, hb4⟩) | (at_builtin; refine wpList_pushFlat fInt wr rfl _ _ 22 rfl w.heap.size 3 i0 (.int .i64 0) 8 Tryz.underlying22 hi hz0 hz1 hz2 rfl (by decide) rfl HL.out mC rfl (by simp) (y := q) (by simp [fInt]) (In64.small (by omega)) HLen (by decide) (Lib.hid hm.size) ?_))
          intro v' w9 hl2 hmw
          go_wp2_with fail
          go_roundw
          case rel => exact ⟨k + 1, _, r, hk1, by go_num, (by first | rfl | rw [e2]), hr, hmw _ rfl mC, Lib.hid hl2, HI2⟩
          case measure => simp [intOf]; omega
      have hb1 : ¬ (k : Int) < (n' : Int) := by omega
      by_cases hc : 0 < c0
      · skip
        have hs0 : 0 ≤ x + y + c0 := by omega
        obtain ⟨q, e1⟩ : ∃ q, (x + y + c0) % 1000000000 = q := ⟨_, rfl⟩
        obtain ⟨r, e2⟩ : ∃ r, (x + y + c0) / 1000000000 = r := ⟨_, rfl⟩
        have hq : 0 ≤ q ∧ q < 1000000000 := by omega
        have hr : r = 0 ∨ r = 1 := by omega
        have hk1 : k + 1 ≤ max n n' + 1 := by
          rcases HI.out.top with h | h
          · have h7 := HN.out; have h8 := HN'.out; omega
          · have h7 := HN.out; have h8 := HN'.out; omega
        have HI2 : Hid (AddInv a b (k + 1) (xs ++ [q]) r) := Lib.hid (by rw [← e1, ← e2, ← tm_eq hs0, ← td_eq hs0]; exact HI.out.step (by rw [← HN.out, ← HN'.out]; exact .inr (.inr hc)) (by rw [GX.out, GY.out]; try omega))
        go_wp2_with (first | (go_at_call 146; (with_reducible refine (impl_limb_ (.slice ao n cap) (limbs a) k x _ (Ty.at_more HV.out mC) GX.out).mono ?_); rintro e w3 ⟨rfl, hb3⟩) | (go_at_call 146; (with_reducible refine (impl_limb_ (.slice ao' n' cap') (limbs b) k y _ (Ty.at_more HV'.out mC) GY.out).mono ?_); rintro e w4 ⟨rfl, hb4⟩) | (at_builtin; refine wpList_pushFlat fInt wr rfl _ _ 22 rfl w.heap.size 3 i0 (.int .i64 0) 8 Tryz.underlying22 hi hz0 hz1 hz2 rfl (by decide) rfl HL.out mC rfl (by simp) (y := q) (by simp [fInt]) (In64.small (by omega)) HLen (by decide) (Lib.hid hm.size) ?_))
        intro v' w9 hl2 hmw
        go_wp2_with fail
        go_roundw
        case rel => exact ⟨k + 1, _, r, hk1, by go_num, (by first | rfl | rw [e2]), hr, hmw _ rfl mC, Lib.hid hl2, HI2⟩
        case measure => simp [intOf]; omega
      go_wp2_with fail
      go_ret
      exact ⟨_, rfl, hm, by rw [← HI.out.done (by rw [← HN.out]; exact ha) (by rw [← HN'.out]; exact hb) (by omega)]; exact HL.out.at⟩
set_option maxRecDepth 4000 in
set_option maxHeartbeats 6400000 in
theorem spec_l02Add (v v' : Value) (a b : Nat) (w : World) (hv : tInts.at w [v] (limbs a)) (hv' : tInts.at w [v'] (limbs b)) (hl : (limbs a).length ≤ 4096) (_hm : (limbs b).length ≤ 4096) :
    Calls Tryz.prog 158 #[v, v'] w fun e w' => ∃ u, e = .returned u ∧ More w w' ∧ tInts.at w' [u] (limbs (a + b)) := by
  obtain ⟨ao, cap, rfl⟩ := sl_len hv
  obtain ⟨ao', cap', rfl⟩ := sl_len hv'
  have HV := Lib.hid hv; clear hv
  have HV' := Lib.hid hv'; clear hv'
  obtain ⟨n, hn⟩ : ∃ n, n = (limbs a).length := ⟨_, rfl⟩
  obtain ⟨n', hn'⟩ : ∃ n', n' = (limbs b).length := ⟨_, rfl⟩
  rw [← hn] at HV hl ⊢
  rw [← hn'] at HV' _hm ⊢
  have HN := Lib.hid hn; have HN' := Lib.hid hn'; clear hn hn'
  obtain ⟨i0, hi, hz0, hz1, hz2⟩ := info_parts infoInt_
  go_enter Tryz.func158, Tryz.ntmps158
  go_wp2_with fail
  go_loopw [5, 6, 7] (fun v c i wr => ∃ (k : Nat) (xs : List Int) (c0 : Int), k ≤ max n n' + 1 ∧ i = .int .i64 k ∧ c = .int .i64 c0 ∧ (c0 = 0 ∨ c0 = 1) ∧ More w wr ∧ Hid (FlatOwn fInt w.heap.size 3 wr v xs) ∧ Hid (AddInv a b k xs c0)) (fun _ _ i _ => max n n' + 1 - (intOf i).toNat)
  case atStart => exact ⟨0, [], 0, Nat.zero_le _, rfl, rfl, .inl rfl, mC, Lib.hid (FlatOwn.lit (Nat.le_refl _)), Lib.hid (AddInv.start a b)⟩
  case round =>
    skip
    obtain ⟨k, xs, c0, hk, rfl, rfl, hc0, hm, HL, HI⟩ := hrel
    have hgx := limbs_get a k; have hgy := limbs_get b k
    obtain ⟨x, ex⟩ : ∃ x, (limbs a).getD k 0 = x := ⟨_, rfl⟩
    obtain ⟨y, ey⟩ : ∃ y, (limbs b).getD k 0 = y := ⟨_, rfl⟩
    rw [ex] at hgx; rw [ey] at hgy
    have GX := Lib.hid ex; have GY := Lib.hid ey; clear ex ey
    have HLen : Hid (xs.length ≤ 2097152) := Lib.hid (by rw [HI.out.len]; omega)
    by_cases ha : k < n
    · have ha1 : (k : Int) < (n : Int) := by omega
      obtain ⟨px, offx, x', rfl, hbltx, hxx, -, ccx⟩ := int_el (Ty.at_more HV.out hm) (k := k) (by rw [← HN.out]; exact ha)
      obtain rfl : x = x' := by have h := GX.out; rw [List.getD_eq_getElem?_getD, hxx] at h; exact h.symm
      clear hxx
      by_cases hb : k < n'
      · have hb1 : (k : Int) < (n' : Int) := by omega
        obtain ⟨py, offy, y', rfl, hblty, hxy, -, ccy⟩ := int_el (Ty.at_more HV'.out hm) (k := k) (by rw [← HN'.out]; exact hb)
        obtain rfl : y = y' := by have h := GY.out; rw [List.getD_eq_getElem?_getD, hxy] at h; exact h.symm
        clear hxy
        have hs0 : 0 ≤ c0 + x + y := by omega
        obtain ⟨q, e1⟩ : ∃ q, (c0 + x + y) % 1000000000 = q := ⟨_, rfl⟩
        obtain ⟨r, e2⟩ : ∃ r, (c0 + x + y) / 1000000000 = r := ⟨_, rfl⟩
        have hq : 0 ≤ q ∧ q < 1000000000 := by omega
        have hr : r = 0 ∨ r = 1 := by omega
        have hk1 : k + 1 ≤ max n n' + 1 := by
          rcases HI.out.top with h | h
          · have h7 := HN.out; have h8 := HN'.out; omega
          · have h7 := HN.out; have h8 := HN'.out; omega
        have HI2 : Hid (AddInv a b (k + 1) (xs ++ [q]) r) := Lib.hid (by rw [← e1, ← e2, ← tm_eq hs0, ← td_eq hs0]; exact HI.out.step (by rw [← HN.out, ← HN'.out]; exact .inl ha) (by rw [GX.out, GY.out]; try omega))
        go_wp2_with (first | (at_builtin; refine wpList_pushFlat fInt wr rfl _ _ 22 rfl w.heap.size 3 i0 (.int .i64 0) 8 Tryz.underlying22 hi hz0 hz1 hz2 rfl (by decide) rfl HL.out mC rfl (by simp) (y := q) (by simp [fInt]) (In64.small (by omega)) HLen (by decide) (Lib.hid hm.size) ?_))
        intro v' w9 hl2 hmw
        go_wp2_with fail
        go_roundw
        case rel => exact ⟨k + 1, _, r, hk1, by go_num, (by first | rfl | rw [e2]), hr, hmw _ rfl mC, Lib.hid hl2, HI2⟩
        case measure => simp [intOf]; omega
      · have hb1 : ¬ (k : Int) < (n' : Int) := by omega
        obtain rfl : y = 0 := by have h := GY.out; rw [List.getD_eq_getElem?_getD, List.getElem?_eq_none (by rw [← HN'.out]; omega)] at h; exact h.symm
        have hs0 : 0 ≤ c0 + x := by omega
        obtain ⟨q, e1⟩ : ∃ q, (c0 + x) % 1000000000 = q := ⟨_, rfl⟩
        obtain ⟨r, e2⟩ : ∃ r, (c0 + x) / 1000000000 = r := ⟨_, rfl⟩
        have hq : 0 ≤ q ∧ q < 1000000000 := by omega
        have hr : r = 0 ∨ r = 1 := by omega
        have hk1 : k + 1 ≤ max n n' + 1 := by
          rcases HI.out.top with h | h
          · have h7 := HN.out; have h8 := HN'.out; omega
          · have h7 := HN.out; have h8 := HN'.out; omega
        have HI2 : Hid (AddInv a b (k + 1) (xs ++ [q]) r) := Lib.hid (by rw [← e1, ← e2, ← tm_eq hs0, ← td_eq hs0]; exact HI.out.step (by rw [← HN.out, ← HN'.out]; exact .inl ha) (by rw [GX.out, GY.out]; try omega))
        go_wp2_with (first | (at_builtin; refine wpList_pushFlat fInt wr rfl _ _ 22 rfl w.heap.size 3 i0 (.int .i64 0) 8 Tryz.underlying22 hi hz0 hz1 hz2 rfl (by decide) rfl HL.out mC rfl (by simp) (y := q) (by simp [fInt]) (In64.small (by omega)) HLen (by decide) (Lib.hid hm.size) ?_))
        intro v' w9 hl2 hmw
        go_wp2_with fail
        go_roundw
        case rel => exact ⟨k + 1, _, r, hk1, by go_num, (by first | rfl | rw [e2]), hr, hmw _ rfl mC, Lib.hid hl2, HI2⟩
        case measure => simp [intOf]; omega
    have ha1 : ¬ (k : Int) < (n : Int) := by omega
    obtain rfl : x = 0 := by have h := GX.out; rw [List.getD_eq_getElem?_getD, List.getElem?_eq_none (by rw [← HN.out]; omega)] at h; exact h.symm
    by_cases hb : k < n'
    · have hb1 : (k : Int) < (n' : Int) := by omega
      obtain ⟨py, offy, y', rfl, hblty, hxy, -, ccy⟩ := int_el (Ty.at_more HV'.out hm) (k := k) (by rw [← HN'.out]; exact hb)
      obtain rfl : y = y' := by have h := GY.out; rw [List.getD_eq_getElem?_getD, hxy] at h; exact h.symm
      clear hxy
      have hs0 : 0 ≤ c0 + y := by omega
      obtain ⟨q, e1⟩ : ∃ q, (c0 + y) % 1000000000 = q := ⟨_, rfl⟩
      obtain ⟨r, e2⟩ : ∃ r, (c0 + y) / 1000000000 = r := ⟨_, rfl⟩
      have hq : 0 ≤ q ∧ q < 1000000000 := by omega
      have hr : r = 0 ∨ r = 1 := by omega
      have hk1 : k + 1 ≤ max n n' + 1 := by
        rcases HI.out.top with h | h
        · have h7 := HN.out; have h8 := HN'.out; omega
        · have h7 := HN.out; have h8 := HN'.out; omega
      have HI2 : Hid (AddInv a b (k + 1) (xs ++ [q]) r) := Lib.hid (by rw [← e1, ← e2, ← tm_eq hs0, ← td_eq hs0]; exact HI.out.step (by rw [← HN.out, ← HN'.out]; exact .inr (.inl hb)) (by rw [GX.out, GY.out]; try omega))
      go_wp2_with (first | (at_builtin; refine wpList_pushFlat fInt wr rfl _ _ 22 rfl w.heap.size 3 i0 (.int .i64 0) 8 Tryz.underlying22 hi hz0 hz1 hz2 rfl (by decide) rfl HL.out mC rfl (by simp) (y := q) (by simp [fInt]) (In64.small (by omega)) HLen (by decide) (Lib.hid hm.size) ?_))
      intro v' w9 hl2 hmw
      go_wp2_with fail
      go_roundw
      case rel => exact ⟨k + 1, _, r, hk1, by go_num, (by first | rfl | rw [e2]), hr, hmw _ rfl mC, Lib.hid hl2, HI2⟩
      case measure => simp [intOf]; omega
    have hb1 : ¬ (k : Int) < (n' : Int) := by omega
    obtain rfl : y = 0 := by have h := GY.out; rw [List.getD_eq_getElem?_getD, List.getElem?_eq_none (by rw [← HN'.out]; omega)] at h; exact h.symm
    by_cases hc : 0 < c0
    · skip
      have hs0 : 0 ≤ c0 := by omega
      obtain ⟨q, e1⟩ : ∃ q, (c0) % 1000000000 = q := ⟨_, rfl⟩
      obtain ⟨r, e2⟩ : ∃ r, (c0) / 1000000000 = r := ⟨_, rfl⟩
      have hq : 0 ≤ q ∧ q < 1000000000 := by omega
      have hr : r = 0 ∨ r = 1 := by omega
      have hk1 : k + 1 ≤ max n n' + 1 := by
        rcases HI.out.top with h | h
        · have h7 := HN.out; have h8 := HN'.out; omega
        · have h7 := HN.out; have h8 := HN'.out; omega
      have HI2 : Hid (AddInv a b (k + 1) (xs ++ [q]) r) := Lib.hid (by rw [← e1, ← e2, ← tm_eq hs0, ← td_eq hs0]; exact HI.out.step (by rw [← HN.out, ← HN'.out]; exact .inr (.inr hc)) (by rw [GX.out, GY.out]; try omega))
      go_wp2_with (first | (at_builtin; refine wpList_pushFlat fInt wr rfl _ _ 22 rfl w.heap.size 3 i0 (.int .i64 0) 8 Tryz.underlying22 hi hz0 hz1 hz2 rfl (by decide) rfl HL.out mC rfl (by simp) (y := q) (by simp [fInt]) (In64.small (by omega)) HLen (by decide) (Lib.hid hm.size) ?_))
      intro v' w9 hl2 hmw
      go_wp2_with fail
      go_roundw
      case rel => exact ⟨k + 1, _, r, hk1, by go_num, (by first | rfl | rw [e2]), hr, hmw _ rfl mC, Lib.hid hl2, HI2⟩
      case measure => simp [intOf]; omega
    go_wp2_with fail
    go_ret
    exact ⟨_, rfl, hm, by rw [← HI.out.done (by rw [← HN.out]; exact ha) (by rw [← HN'.out]; exact hb) (by omega)]; exact HL.out.at⟩
set_option maxRecDepth 4000 in
set_option maxHeartbeats 6400000 in
theorem impl_natSub (v v' : Value) (a b : Nat) (w : World) (hv : tInts.at w [v] (limbs a)) (hv' : tInts.at w [v'] (limbs b)) (hl : (limbs a).length ≤ 4096) (_hm : (limbs b).length ≤ 4096) (hba : b ≤ a) :
    Calls Tryz.prog 143 #[v, v'] w fun e w' => ∃ u, e = .returned u ∧ More w w' ∧ tInts.at w' [u] (limbs (a - b)) := by
  obtain ⟨ao, cap, rfl⟩ := sl_len hv
  obtain ⟨ao', cap', rfl⟩ := sl_len hv'
  have HV := Lib.hid hv; clear hv
  have HV' := Lib.hid hv'; clear hv'
  obtain ⟨n, hn⟩ : ∃ n, n = (limbs a).length := ⟨_, rfl⟩
  obtain ⟨n', hn'⟩ : ∃ n', n' = (limbs b).length := ⟨_, rfl⟩
  rw [← hn] at HV hl ⊢
  rw [← hn'] at HV' _hm ⊢
  have HN := Lib.hid hn; have HN' := Lib.hid hn'; clear hn hn'
  obtain ⟨i0, hi, hz0, hz1, hz2⟩ := info_parts infoInt_
  go_enter Tryz.func143, Tryz.ntmps143
  go_wp2_with (at_make; refine wpList_make_own _ rfl _ _ 22 rfl w.heap.size 3 i0 (.int .i64 0) 1 Tryz.underlying22 hi hz0 hz1 _ _ _ (n) rfl rfl ?c0 ?c1 ?c2 ?c3 ?_)
  case c0 => rfl
  case c1 => rw [hz2]; omega
  case c2 => unfold maxLen; omega
  case c3 => exact Nat.le_refl _
  intro w1 hown hgr
  have hb1 : More w w1 := Turns.more ((Turns.refl _ _).grown hgr (by simp))
  have HO : Hid (FlatOwn fInt w.heap.size 3 w1 (.slice (some ⟨w.heap.size, 0, none⟩) 0 n) []) := Lib.hid (FlatOwn.made hown)
  clear hown hgr
  go_wp2_with fail
  go_loopw [5, 6, 14] (fun v c i wr => ∃ (k : Nat) (xs : List Int) (c0 : Int), k ≤ n ∧ i = .int .i64 k ∧ c = .int .i64 c0 ∧ (c0 = 0 ∨ c0 = 1) ∧ More w wr ∧ Hid (FlatOwn fInt w.heap.size 3 wr v xs) ∧ Hid (SubInv a b k xs c0)) (fun _ _ i _ => n - (intOf i).toNat)
  case atStart => exact ⟨0, [], 0, Nat.zero_le _, rfl, rfl, .inl rfl, hb1, HO, Lib.hid (SubInv.start a b)⟩
  case round =>
    clear HO hb1
    obtain ⟨k, xs, c0, hk, rfl, rfl, hc0, hm, HL, HI⟩ := hrel
    by_cases ha : k < n
    · have ha1 : (k : Int) < (n : Int) := by omega
      have hgx := limbs_get a k; have hgy := limbs_get b k
      obtain ⟨x, ex⟩ : ∃ x, (limbs a).getD k 0 = x := ⟨_, rfl⟩
      obtain ⟨y, ey⟩ : ∃ y, (limbs b).getD k 0 = y := ⟨_, rfl⟩
      rw [ex] at hgx; rw [ey] at hgy
      have GX := Lib.hid ex; have GY := Lib.hid ey; clear ex ey
      have HLen : Hid (xs.length ≤ 2097152) := Lib.hid (by rw [HI.out.len]; omega)
      obtain ⟨px, offx, x', rfl, hbltx, hxx, -, ccx⟩ := int_el (Ty.at_more HV.out hm) (k := k) (by rw [← HN.out]; exact ha)
      obtain rfl : x = x' := by have h := GX.out; rw [List.getD_eq_getElem?_getD, hxx] at h; exact h.symm
      clear hxx
      have C0 : ∀ w', More wr w' → w'.cell? ⟨px, offx + k, none⟩ = some (.int .i64 x) := fun w' h => box_keep h hbltx ccx
      have hw1 : IntKind.i64.wrap (x - y) = x - y := IntWalk.i64_in _ (by omega)
      obtain ⟨z, ez⟩ : ∃ z, z = x - y - c0 := ⟨_, rfl⟩
      have hw2 : IntKind.i64.wrap (x - y - c0) = z := by rw [ez]; exact IntWalk.i64_in _ (by omega)
      have hzr : -1000000000 ≤ z ∧ z < 1000000000 := by omega
      have EZ := Lib.hid ez; clear ez
      by_cases hneg : z < 0
      · have HI2 : Hid (SubInv a b (k + 1) (xs ++ [z + 1000000000]) 1) := Lib.hid (HI.out.step (n := z) (d := z + 1000000000) (by omega) (.inr rfl) (by rw [GX.out, GY.out]; exact EZ.out) (by omega))
        go_wp2_with fail
        go_region_held3 (fun w' => More wr w') (first | exact More.refl _ | exact mC) (first | (go_at_call 146; (with_reducible refine (impl_limb_ (.slice ao' n' cap') (limbs b) k y _ (Ty.at_more HV'.out mC) GY.out).mono ?_); rintro e w4 ⟨rfl, hb4⟩))
        clear C0
        go_wp2_with (first | (at_builtin; refine wpList_pushFlat fInt wr rfl _ _ 22 rfl w.heap.size 3 i0 (.int .i64 0) 8 Tryz.underlying22 hi hz0 hz1 hz2 rfl (by decide) rfl HL.out mC rfl (by simp) (y := z + 1000000000) (by simp [fInt]) (In64.small (by omega)) HLen (by decide) (Lib.hid hm.size) ?_))
        intro v' w9 hl2 hmw
        go_wp2_with fail
        go_roundw
        case rel => exact ⟨k + 1, _, 1, by omega, by go_num, rfl, .inr rfl, hmw _ rfl mC, Lib.hid hl2, HI2⟩
        case measure => simp [intOf]; omega
      · have HI2 : Hid (SubInv a b (k + 1) (xs ++ [z]) 0) := Lib.hid (HI.out.step (n := z) (d := z) (by omega) (.inl rfl) (by rw [GX.out, GY.out]; exact EZ.out) (by omega))
        go_wp2_with fail
        go_region_held3 (fun w' => More wr w') (first | exact More.refl _ | exact mC) (first | (go_at_call 146; (with_reducible refine (impl_limb_ (.slice ao' n' cap') (limbs b) k y _ (Ty.at_more HV'.out mC) GY.out).mono ?_); rintro e w4 ⟨rfl, hb4⟩))
        clear C0
        go_wp2_with (first | (at_builtin; refine wpList_pushFlat fInt wr rfl _ _ 22 rfl w.heap.size 3 i0 (.int .i64 0) 8 Tryz.underlying22 hi hz0 hz1 hz2 rfl (by decide) rfl HL.out mC rfl (by simp) (y := z ) (by simp [fInt]) (In64.small (by omega)) HLen (by decide) (Lib.hid hm.size) ?_))
        intro v' w9 hl2 hmw
        go_wp2_with fail
        go_roundw
        case rel => exact ⟨k + 1, _, 0, by omega, by go_num, rfl, .inl rfl, hmw _ rfl mC, Lib.hid hl2, HI2⟩
        case measure => simp [intOf]; omega
    · obtain rfl : k = n := by omega
      have HIe := HI
      have HD : Hid (IsL xs ∧ val xs = ((a - b : Nat) : Int)) := Lib.hid (by have h := HI.out; rw [HN.out] at h; exact h.done hba)
      go_wp2_with (first | (go_at_call 88; refine (impl_trimmed _ xs (a - b) _ (Ty.at_more HL.out.at mC) (by rw [(SubInv.len HIe.out)]; omega) HD.out.1 HD.out.2).mono ?_; rintro e w9 ⟨u, rfl, hb9, g9⟩))
      go_ret
      exact ⟨_, rfl, mC, g9⟩
set_option maxRecDepth 4000 in
set_option maxHeartbeats 6400000 in
theorem spec_l02Sub (v v' : Value) (a b : Nat) (w : World) (hv : tInts.at w [v] (limbs a)) (hv' : tInts.at w [v'] (limbs b)) (hl : (limbs a).length ≤ 4096) (_hm : (limbs b).length ≤ 4096) (hba : b ≤ a) :
    Calls Tryz.prog 160 #[v, v'] w fun e w' => ∃ u, e = .returned u ∧ More w w' ∧ tInts.at w' [u] (limbs (a - b)) := by
  obtain ⟨ao, cap, rfl⟩ := sl_len hv
  obtain ⟨ao', cap', rfl⟩ := sl_len hv'
  have HV := Lib.hid hv; clear hv
  have HV' := Lib.hid hv'; clear hv'
  obtain ⟨n, hn⟩ : ∃ n, n = (limbs a).length := ⟨_, rfl⟩
  obtain ⟨n', hn'⟩ : ∃ n', n' = (limbs b).length := ⟨_, rfl⟩
  rw [← hn] at HV hl ⊢
  rw [← hn'] at HV' _hm ⊢
  have HN := Lib.hid hn; have HN' := Lib.hid hn'; clear hn hn'
  obtain ⟨i0, hi, hz0, hz1, hz2⟩ := info_parts infoInt_
  go_enter Tryz.func160, Tryz.ntmps160
  go_wp2_with fail
  go_loopw [5, 6, 12] (fun v c i wr => ∃ (k : Nat) (xs : List Int) (c0 : Int), k ≤ n ∧ i = .int .i64 k ∧ c = .int .i64 c0 ∧ (c0 = 0 ∨ c0 = 1) ∧ More w wr ∧ Hid (FlatOwn fInt w.heap.size 3 wr v xs) ∧ Hid (SubInv a b k xs c0)) (fun _ _ i _ => n - (intOf i).toNat)
  case atStart => exact ⟨0, [], 0, Nat.zero_le _, rfl, rfl, .inl rfl, mC, Lib.hid (FlatOwn.lit (Nat.le_refl _)), Lib.hid (SubInv.start a b)⟩
  case round =>
    skip
    obtain ⟨k, xs, c0, hk, rfl, rfl, hc0, hm, HL, HI⟩ := hrel
    by_cases ha : k < n
    · have ha1 : (k : Int) < (n : Int) := by omega
      have hgx := limbs_get a k; have hgy := limbs_get b k
      obtain ⟨x, ex⟩ : ∃ x, (limbs a).getD k 0 = x := ⟨_, rfl⟩
      obtain ⟨y, ey⟩ : ∃ y, (limbs b).getD k 0 = y := ⟨_, rfl⟩
      rw [ex] at hgx; rw [ey] at hgy
      have GX := Lib.hid ex; have GY := Lib.hid ey; clear ex ey
      have HLen : Hid (xs.length ≤ 2097152) := Lib.hid (by rw [HI.out.len]; omega)
      obtain ⟨px, offx, x', rfl, hbltx, hxx, -, ccx⟩ := int_el (Ty.at_more HV.out hm) (k := k) (by rw [← HN.out]; exact ha)
      obtain rfl : x = x' := by have h := GX.out; rw [List.getD_eq_getElem?_getD, hxx] at h; exact h.symm
      clear hxx
      by_cases hb : k < n'
      · have hb1 : (k : Int) < (n' : Int) := by omega
        obtain ⟨py, offy, y', rfl, hblty, hxy, -, ccy⟩ := int_el (Ty.at_more HV'.out hm) (k := k) (by rw [← HN'.out]; exact hb)
        obtain rfl : y = y' := by have h := GY.out; rw [List.getD_eq_getElem?_getD, hxy] at h; exact h.symm
        clear hxy
        by_cases hneg : x - c0 - y < 0
        · have HI2 : Hid (SubInv a b (k + 1) (xs ++ [x - c0 - y + 1000000000]) 1) := Lib.hid (HI.out.step (n := x - c0 - y) (d := x - c0 - y + 1000000000) (by omega) (.inr rfl) (by rw [GX.out, GY.out]; try omega) (by omega))
          go_wp2_with (first | (at_builtin; refine wpList_pushFlat fInt wr rfl _ _ 22 rfl w.heap.size 3 i0 (.int .i64 0) 8 Tryz.underlying22 hi hz0 hz1 hz2 rfl (by decide) rfl HL.out mC rfl (by simp) (y := x - c0 - y + 1000000000) (by simp [fInt]) (In64.small (by omega)) HLen (by decide) (Lib.hid hm.size) ?_))
          intro v' w9 hl2 hmw
          go_wp2_with fail
          go_roundw
          case rel => exact ⟨k + 1, _, 1, by omega, by go_num, rfl, .inr rfl, hmw _ rfl mC, Lib.hid hl2, HI2⟩
          case measure => simp [intOf]; omega
        · have HI2 : Hid (SubInv a b (k + 1) (xs ++ [x - c0 - y]) 0) := Lib.hid (HI.out.step (n := x - c0 - y) (d := x - c0 - y) (by omega) (.inl rfl) (by rw [GX.out, GY.out]; try omega) (by omega))
          go_wp2_with (first | (at_builtin; refine wpList_pushFlat fInt wr rfl _ _ 22 rfl w.heap.size 3 i0 (.int .i64 0) 8 Tryz.underlying22 hi hz0 hz1 hz2 rfl (by decide) rfl HL.out mC rfl (by simp) (y := x - c0 - y ) (by simp [fInt]) (In64.small (by omega)) HLen (by decide) (Lib.hid hm.size) ?_))
          intro v' w9 hl2 hmw
          go_wp2_with fail
          go_roundw
          case rel => exact ⟨k + 1, _, 0, by omega, by go_num, rfl, .inl rfl, hmw _ rfl mC, Lib.hid hl2, HI2⟩
          case measure => simp [intOf]; omega
      · have hb1 : ¬ (k : Int) < (n' : Int) := by omega
        obtain rfl : y = 0 := by have h := GY.out; rw [List.getD_eq_getElem?_getD, List.getElem?_eq_none (by rw [← HN'.out]; omega)] at h; exact h.symm
        by_cases hneg : x - c0 < 0
        · have HI2 : Hid (SubInv a b (k + 1) (xs ++ [x - c0 + 1000000000]) 1) := Lib.hid (HI.out.step (n := x - c0) (d := x - c0 + 1000000000) (by omega) (.inr rfl) (by rw [GX.out, GY.out]; try omega) (by omega))
          go_wp2_with (first | (at_builtin; refine wpList_pushFlat fInt wr rfl _ _ 22 rfl w.heap.size 3 i0 (.int .i64 0) 8 Tryz.underlying22 hi hz0 hz1 hz2 rfl (by decide) rfl HL.out mC rfl (by simp) (y := x - c0 + 1000000000) (by simp [fInt]) (In64.small (by omega)) HLen (by decide) (Lib.hid hm.size) ?_))
          intro v' w9 hl2 hmw
          go_wp2_with fail
          go_roundw
          case rel => exact ⟨k + 1, _, 1, by omega, by go_num, rfl, .inr rfl, hmw _ rfl mC, Lib.hid hl2, HI2⟩
          case measure => simp [intOf]; omega
        · have HI2 : Hid (SubInv a b (k + 1) (xs ++ [x - c0]) 0) := Lib.hid (HI.out.step (n := x - c0) (d := x - c0) (by omega) (.inl rfl) (by rw [GX.out, GY.out]; try omega) (by omega))
          go_wp2_with (first | (at_builtin; refine wpList_pushFlat fInt wr rfl _ _ 22 rfl w.heap.size 3 i0 (.int .i64 0) 8 Tryz.underlying22 hi hz0 hz1 hz2 rfl (by decide) rfl HL.out mC rfl (by simp) (y := x - c0 ) (by simp [fInt]) (In64.small (by omega)) HLen (by decide) (Lib.hid hm.size) ?_))
          intro v' w9 hl2 hmw
          go_wp2_with fail
          go_roundw
          case rel => exact ⟨k + 1, _, 0, by omega, by go_num, rfl, .inl rfl, hmw _ rfl mC, Lib.hid hl2, HI2⟩
          case measure => simp [intOf]; omega
    · obtain rfl : k = n := by omega
      have HIe := HI
      have HD : Hid (IsL xs ∧ val xs = ((a - b : Nat) : Int)) := Lib.hid (by have h := HI.out; rw [HN.out] at h; exact h.done hba)
      go_wp2_with (first | (go_at_call 79; refine (spec_l02Trim _ xs (a - b) _ (Ty.at_more HL.out.at mC) (by rw [(SubInv.len HIe.out)]; omega) HD.out.1 HD.out.2).mono ?_; rintro e w9 ⟨u, rfl, hb9, g9⟩))
      go_ret
      exact ⟨_, rfl, mC, g9⟩
end Go.Proofs.YtnbefpfijaimjaaGreatDoor
/- Natural numbers as limbs: the product: the program's and the reference's. -/
namespace Go.Proofs.YtnbefpfijaimjaaGreatDoor
open Go.RowKit
theorem mul_lt_low (a b i : Nat) : val ((limbs a).take i) * b < bp (i + (limbs b).length) := by
  have h1 := limbs_take_lt a i
  have h2 := limbs_lt b
  have h3 := limbs_take_nonneg a i
  rw [bp_add]
  have h4 : val ((limbs a).take i) * b ≤ val ((limbs a).take i) * bp (limbs b).length := Int.mul_le_mul_of_nonneg_left (by omega) h3
  have h5 : val ((limbs a).take i) * bp (limbs b).length < bp i * bp (limbs b).length := Int.mul_lt_mul_of_pos_right h1 (bp_pos _)
  omega
theorem val_lt_zeros {l : List Int} (h : IsL l) {m : Nat} (hz : ∀ p, m ≤ p → l.getD p 0 = 0) : val l < bp m := by
  by_cases hm : m ≤ l.length
  · have h1 := val_drop l m hm
    have h2 : l.drop m = List.replicate (l.length - m) 0 := by
      apply List.ext_getElem?
      intro i
      rw [List.getElem?_drop, List.getElem?_replicate]
      by_cases hi : m + i < l.length
      · have := hz (m + i) (by omega)
        rw [List.getD_eq_getElem?_getD, List.getElem?_eq_getElem hi] at this
        rw [List.getElem?_eq_getElem hi, if_pos (by omega)]
        simpa using this
      · rw [List.getElem?_eq_none (by omega), if_neg (by omega)]
    rw [h2, val_replicate_zero] at h1
    have h3 : val (l.take m) < bp m := Int.lt_of_lt_of_le (val_lt (h.take m)) (bp_mono (by rw [List.length_take]; omega))
    omega
  · exact Int.lt_of_lt_of_le (val_lt h) (bp_mono (by omega))
set_option maxRecDepth 4000 in
set_option maxHeartbeats 12800000 in
theorem impl_natMul (v v' : Value) (a b : Nat) (w : World) (hv : tInts.at w [v] (limbs a)) (hv' : tInts.at w [v'] (limbs b)) (hl : (limbs a).length ≤ 4096) (hm : (limbs b).length ≤ 4096) :
    Calls Tryz.prog 108 #[v, v'] w fun e w' => ∃ u, e = .returned u ∧ More w w' ∧ tInts.at w' [u] (limbs (a * b)) := by
  obtain ⟨ao, cap, rfl⟩ := sl_len hv
  obtain ⟨ao', cap', rfl⟩ := sl_len hv'
  have HV := Lib.hid hv; clear hv
  have HV' := Lib.hid hv'; clear hv'
  obtain ⟨n, hn⟩ : ∃ n, n = (limbs a).length := ⟨_, rfl⟩
  obtain ⟨n', hn'⟩ : ∃ n', n' = (limbs b).length := ⟨_, rfl⟩
  rw [← hn] at HV hl ⊢
  rw [← hn'] at HV' hm ⊢
  have HN := Lib.hid hn; have HN' := Lib.hid hn'; clear hn hn'
  obtain ⟨i0, hi, hz0, hz1, hz2⟩ := info_parts infoInt_
  obtain ⟨NN, hNN⟩ : ∃ NN, NN = n + n' := ⟨_, rfl⟩
  have HNN : Hid (NN = (limbs a).length + (limbs b).length) := Lib.hid (by rw [hNN, HN.out, HN'.out])
  have hNNi : (n : Int) + (n' : Int) = (NN : Int) := by omega
  have hNNl : NN ≤ 8192 := by omega
  have HNN0 := Lib.hid hNN; clear hNN
  go_enter Tryz.func108, Tryz.ntmps108
  go_wp2_with (at_make; refine wpList_make_full _ rfl _ _ 22 rfl w.heap.size 3 i0 (.int .i64 0) 1 Tryz.underlying22 hi hz0 hz1 _ _ _ _ NN rfl rfl ?_ ?_ ?_ ?_ ?_ ?_)
  all_goals first | rfl | omega | (rw [hz2]; omega) | (unfold maxLen; omega) | exact Nat.le_refl _ | skip
  intro w1 hown hgr
  have hb1 : More w w1 := Turns.more ((Turns.refl _ _).grown hgr (by simp))
  have HO : Hid (RowI w.heap.size 3 w1 w.heap.size NN (List.replicate NN 0)) := Lib.hid (RowI.made (by rw [Nat.mul_one]; exact hown))
  clear hown hgr
  go_wp2_with fail
  go_loopw [19] (fun i wr => ∃ (k : Nat) (xs : List Int), k ≤ n ∧ i = .int .i64 k ∧ More w wr ∧ Hid (RowI w.heap.size 3 wr w.heap.size NN xs) ∧ Hid (MulInv a b k xs)) (fun i _ => n - (intOf i).toNat)
  case atStart => exact ⟨0, _, Nat.zero_le _, rfl, hb1, HO, Lib.hid (by rw [HNN.out]; exact MulInv.start a b)⟩
  case round =>
    clear HO hb1
    obtain ⟨k, xs, hk, rfl, hm1, HR, HI⟩ := hrel
    by_cases ha : k < n
    · have ha1 : (k : Int) < (n : Int) := by omega
      obtain ⟨px, offx, x, rfl, hbltx, hxx, -, ccx⟩ := int_el (Ty.at_more HV.out hm1) (k := k) (by rw [← HN.out]; exact ha)
      have GX : Hid ((limbs a).getD k 0 = x) := Lib.hid (by rw [List.getD_eq_getElem?_getD, hxx]; rfl)
      clear hxx
      have HI1 : Hid (MulRow a b k 0 xs 0) := Lib.hid (HI.out.open (by rw [← HN.out]; exact ha))
      skip
      go_wp2_with fail
      go_loopw [8, 9] (fun c i wr => ∃ (j : Nat) (ys : List Int) (c0 : Int), k + j ≤ NN ∧ i = .int .i64 j ∧ c = .int .i64 c0 ∧ (0 ≤ c0 ∧ c0 < 1000000000) ∧ More w wr ∧ Hid (RowI w.heap.size 3 wr w.heap.size NN ys) ∧ Hid (MulRow a b k j ys c0)) (fun _ i _ => NN - (intOf i).toNat)
      case atStart => exact ⟨0, xs, 0, by omega, rfl, rfl, by omega, hm1, HR, HI1⟩
      case round =>
        clear HR HI HI1 hm1
        obtain ⟨j, ys, c0, hkj, rfl, rfl, hc0, hmi, HR, HI⟩ := hrel
        by_cases hb : j < n'
        · have hb1 : (j : Int) < (n' : Int) := by omega
          have hroom := HI.out.room (by rw [← HN'.out]; exact .inl hb)
          rw [HI.out.len, ← HNN.out] at hroom
          obtain ⟨p, hp⟩ : ∃ p, p = k + j := ⟨_, rfl⟩
          have hpN : p < NN := by omega
          have hpi : (p : Int) < (NN : Int) := by omega
          have hp0 : (0 : Int) ≤ (p : Int) := by omega
          have hwp : IntKind.i64.wrap ((k : Int) + (j : Int)) = (p : Int) := by rw [hp]; exact IntWalk.i64_in _ (by omega)
          have HP := Lib.hid hp
          clear hp
          obtain ⟨q0, f0, -, hg0⟩ := HR.out.get (k := p) hpN
          obtain ⟨b1, b2, b3, b4⟩ := HI.out.bound p
          obtain ⟨y, ey⟩ : ∃ y, (limbs b).getD j 0 = y := ⟨_, rfl⟩
          have GY := Lib.hid ey
          rw [ey, GX.out] at b1 b2
          clear ey
          obtain ⟨z, ez⟩ : ∃ z, ys.getD p 0 = z := ⟨_, rfl⟩
          rw [ez] at b3 b4 q0
          have EZ := Lib.hid ez; clear ez
          obtain ⟨m, em⟩ : ∃ m, m = x * y := ⟨_, rfl⟩
          rw [← em] at b1 b2
          have hwm : IntKind.i64.wrap (x * y) = m := by rw [← em]; exact IntWalk.i64_in _ (by omega)
          have hw2 : IntKind.i64.wrap (z + m) = z + m := IntWalk.i64_in _ (by omega)
          obtain ⟨s, es⟩ : ∃ s, s = z + m + c0 := ⟨_, rfl⟩
          have hw3 : IntKind.i64.wrap (z + m + c0) = s := by rw [es]; exact IntWalk.i64_in _ (by omega)
          have hs0 : 0 ≤ s := by omega
          obtain ⟨q, e1⟩ : ∃ q, s % 1000000000 = q := ⟨_, rfl⟩
          obtain ⟨r, e2⟩ : ∃ r, s / 1000000000 = r := ⟨_, rfl⟩
          have hq : 0 ≤ q ∧ q < 1000000000 := by omega
          have hr : 0 ≤ r ∧ r < 1000000000 := by omega
          have HI2 : Hid (MulRow a b k (j + 1) (ys.set p q) r) := Lib.hid (by
            rw [← e1, ← e2, ← tm_eq hs0, ← td_eq hs0, HP.out]
            exact HI.out.step (by rw [HI.out.len, ← HNN.out, ← HP.out]; exact hpN) (by rw [es, em, GX.out, GY.out, ← HP.out, EZ.out]))
          have C0 : ∀ w', More wr w' → w'.cell? ⟨w.heap.size, p, none⟩ = some (.int .i64 z) := fun w' h => box_keep h hg0 q0
          clear em es
          go_wp2_with fail
          go_region_held3 (fun w' => More wr w') (first | exact More.refl _ | exact mC) (first | (go_at_call 146; (with_reducible refine (impl_limb_ (.slice ao' n' cap') (limbs b) j y _ (Ty.at_more HV'.out mC) GY.out).mono ?_); rintro e w4 ⟨rfl, hb4⟩))
          have R4 := Lib.hid (RowI.more HR.out (show More wr w4 from mC))
          obtain ⟨q4, f4, -, hg4⟩ := R4.out.get (k := p) hpN
          clear C0
          go_wp2_with fail
          go_roundw
          case rel => exact ⟨j + 1, _, r, by omega, by go_num, (by first | rfl | rw [e2]), hr, mC2, Lib.hid (R4.out.set hpN (In64.small (by omega))), HI2⟩
          case measure => simp [intOf]; omega
        have hb1 : ¬ (j : Int) < (n' : Int) := by omega
        by_cases hc : 0 < c0
        · skip
          have hroom := HI.out.room (by rw [← HN'.out]; exact .inr hc)
          rw [HI.out.len, ← HNN.out] at hroom
          obtain ⟨p, hp⟩ : ∃ p, p = k + j := ⟨_, rfl⟩
          have hpN : p < NN := by omega
          have hpi : (p : Int) < (NN : Int) := by omega
          have hp0 : (0 : Int) ≤ (p : Int) := by omega
          have hwp : IntKind.i64.wrap ((k : Int) + (j : Int)) = (p : Int) := by rw [hp]; exact IntWalk.i64_in _ (by omega)
          have HP := Lib.hid hp
          clear hp
          obtain ⟨q0, f0, -, hg0⟩ := HR.out.get (k := p) hpN
          obtain ⟨b1, b2, b3, b4⟩ := HI.out.bound p
          obtain ⟨y, ey⟩ : ∃ y, (limbs b).getD j 0 = y := ⟨_, rfl⟩
          have GY := Lib.hid ey
          rw [ey, GX.out] at b1 b2
          clear ey
          obtain ⟨z, ez⟩ : ∃ z, ys.getD p 0 = z := ⟨_, rfl⟩
          rw [ez] at b3 b4 q0
          have EZ := Lib.hid ez; clear ez
          obtain ⟨m, em⟩ : ∃ m, m = x * y := ⟨_, rfl⟩
          rw [← em] at b1 b2
          have hwm : IntKind.i64.wrap (x * y) = m := by rw [← em]; exact IntWalk.i64_in _ (by omega)
          have hw2 : IntKind.i64.wrap (z + m) = z + m := IntWalk.i64_in _ (by omega)
          obtain ⟨s, es⟩ : ∃ s, s = z + m + c0 := ⟨_, rfl⟩
          have hw3 : IntKind.i64.wrap (z + m + c0) = s := by rw [es]; exact IntWalk.i64_in _ (by omega)
          have hs0 : 0 ≤ s := by omega
          obtain ⟨q, e1⟩ : ∃ q, s % 1000000000 = q := ⟨_, rfl⟩
          obtain ⟨r, e2⟩ : ∃ r, s / 1000000000 = r := ⟨_, rfl⟩
          have hq : 0 ≤ q ∧ q < 1000000000 := by omega
          have hr : 0 ≤ r ∧ r < 1000000000 := by omega
          have HI2 : Hid (MulRow a b k (j + 1) (ys.set p q) r) := Lib.hid (by
            rw [← e1, ← e2, ← tm_eq hs0, ← td_eq hs0, HP.out]
            exact HI.out.step (by rw [HI.out.len, ← HNN.out, ← HP.out]; exact hpN) (by rw [es, em, GX.out, GY.out, ← HP.out, EZ.out]))
          have C0 : ∀ w', More wr w' → w'.cell? ⟨w.heap.size, p, none⟩ = some (.int .i64 z) := fun w' h => box_keep h hg0 q0
          clear em es
          go_wp2_with fail
          go_region_held3 (fun w' => More wr w') (first | exact More.refl _ | exact mC) (first | (go_at_call 146; (with_reducible refine (impl_limb_ (.slice ao' n' cap') (limbs b) j y _ (Ty.at_more HV'.out mC) GY.out).mono ?_); rintro e w4 ⟨rfl, hb4⟩))
          have R4 := Lib.hid (RowI.more HR.out (show More wr w4 from mC))
          obtain ⟨q4, f4, -, hg4⟩ := R4.out.get (k := p) hpN
          clear C0
          go_wp2_with fail
          go_roundw
          case rel => exact ⟨j + 1, _, r, by omega, by go_num, (by first | rfl | rw [e2]), hr, mC2, Lib.hid (R4.out.set hpN (In64.small (by omega))), HI2⟩
          case measure => simp [intOf]; omega
        go_wp2_with fail
        go_roundw
        case rel => exact ⟨k + 1, ys, by omega, by go_num, More.trans hmi mC, HR, Lib.hid (HI.out.close (by rw [← HN'.out]; exact hb) (by omega))⟩
        case measure => simp [intOf]; omega
    · obtain rfl : k = n := by omega
      have HD : Hid (IsL xs ∧ val xs = ((a * b : Nat) : Int)) := Lib.hid (by have h := HI.out; rw [HN.out] at h; exact h.done)
      go_wp2_with (first | (go_at_call 88; refine (impl_trimmed _ xs (a * b) _ (Ty.at_more HR.out.at mC) (by rw [HI.out.len, ← HNN.out]; omega) HD.out.1 HD.out.2).mono ?_; rintro e w9 ⟨u, rfl, hb9, g9⟩))
      go_ret
      exact ⟨_, rfl, More.trans hm1 mC, g9⟩
set_option maxRecDepth 4000 in
set_option maxHeartbeats 12800000 in
theorem spec_l02Mul (v v' : Value) (a b : Nat) (w : World) (hv : tInts.at w [v] (limbs a)) (hv' : tInts.at w [v'] (limbs b)) (hl : (limbs a).length ≤ 4096) (hm : (limbs b).length ≤ 4096) :
    Calls Tryz.prog 129 #[v, v'] w fun e w' => ∃ u, e = .returned u ∧ More w w' ∧ tInts.at w' [u] (limbs (a * b)) := by
  obtain ⟨ao, cap, rfl⟩ := sl_len hv
  obtain ⟨ao', cap', rfl⟩ := sl_len hv'
  have HV := Lib.hid hv; clear hv
  have HV' := Lib.hid hv'; clear hv'
  obtain ⟨n, hn⟩ : ∃ n, n = (limbs a).length := ⟨_, rfl⟩
  obtain ⟨n', hn'⟩ : ∃ n', n' = (limbs b).length := ⟨_, rfl⟩
  rw [← hn] at HV hl ⊢
  rw [← hn'] at HV' hm ⊢
  have HN := Lib.hid hn; have HN' := Lib.hid hn'; clear hn hn'
  obtain ⟨i0, hi, hz0, hz1, hz2⟩ := info_parts infoInt_
  obtain ⟨NN, hNN⟩ : ∃ NN, NN = n + n' := ⟨_, rfl⟩
  have HNN : Hid (NN = (limbs a).length + (limbs b).length) := Lib.hid (by rw [hNN, HN.out, HN'.out])
  have hNNi : (n : Int) + (n' : Int) = (NN : Int) := by omega
  have hNNl : NN ≤ 8192 := by omega
  have HNN0 := Lib.hid hNN; clear hNN
  by_cases hz : n = 0
  · have hz' : ((n : Int) == 0) = true := by simp; omega
    go_enter Tryz.func129, Tryz.ntmps129
    go_wp2_with fail
    go_ret
    refine ⟨_, rfl, mC, ?_⟩
    have ha0 : a = 0 := limbs_nil.1 (List.eq_nil_of_length_eq_zero (by rw [← HN.out]; exact hz))
    rw [ha0, Nat.zero_mul, limbs_zero]
    exact Ty.fresh_at (nil_fresh (B := 0))
  have hz1' : ((n : Int) == 0) = false := by simp; omega
  by_cases hy : n' = 0
  · have hz' : ((n' : Int) == 0) = true := by simp; omega
    go_enter Tryz.func129, Tryz.ntmps129
    go_wp2_with fail
    go_ret
    refine ⟨_, rfl, mC, ?_⟩
    have ha0 : b = 0 := limbs_nil.1 (List.eq_nil_of_length_eq_zero (by rw [← HN'.out]; exact hy))
    rw [ha0, Nat.mul_zero, limbs_zero]
    exact Ty.fresh_at (nil_fresh (B := 0))
  have hz2' : ((n' : Int) == 0) = false := by simp; omega
  go_enter Tryz.func129, Tryz.ntmps129
  go_wp2_with (at_make; refine wpList_make_full _ rfl _ _ 22 rfl w.heap.size 3 i0 (.int .i64 0) 1 Tryz.underlying22 hi hz0 hz1 _ _ _ _ NN rfl rfl ?_ ?_ ?_ ?_ ?_ ?_)
  all_goals first | rfl | omega | (rw [hz2]; omega) | (unfold maxLen; omega) | exact Nat.le_refl _ | skip
  intro w1 hown hgr
  have hb1 : More w w1 := Turns.more ((Turns.refl _ _).grown hgr (by simp))
  have HO : Hid (RowI w.heap.size 3 w1 w.heap.size NN (List.replicate NN 0)) := Lib.hid (RowI.made (by rw [Nat.mul_one]; exact hown))
  clear hown hgr
  go_wp2_with fail
  go_loopw [28] (fun i wr => ∃ (k : Nat) (xs : List Int), k ≤ n ∧ i = .int .i64 k ∧ More w wr ∧ Hid (RowI w.heap.size 3 wr w.heap.size NN xs) ∧ Hid (MulInv a b k xs)) (fun i _ => n - (intOf i).toNat)
  case atStart => exact ⟨0, _, Nat.zero_le _, rfl, hb1, HO, Lib.hid (by rw [HNN.out]; exact MulInv.start a b)⟩
  case round =>
    clear HO hb1
    obtain ⟨k, xs, hk, rfl, hm1, HR, HI⟩ := hrel
    by_cases ha : k < n
    · have ha1 : (k : Int) < (n : Int) := by omega
      obtain ⟨px, offx, x, rfl, hbltx, hxx, -, ccx⟩ := int_el (Ty.at_more HV.out hm1) (k := k) (by rw [← HN.out]; exact ha)
      have GX : Hid ((limbs a).getD k 0 = x) := Lib.hid (by rw [List.getD_eq_getElem?_getD, hxx]; rfl)
      clear hxx
      have HI1 : Hid (MulRow a b k 0 xs 0) := Lib.hid (HI.out.open (by rw [← HN.out]; exact ha))
      have HZ0 : Hid (∀ p, k + n' ≤ p → xs.getD p 0 = 0) := Lib.hid (fun p hp => high_zero HI.out.ok (p := k + n') (by rw [HI.out.sum, HN'.out]; exact mul_lt_low a b k) p hp)
      go_wp2_with fail
      go_loopw [8, 35] (fun c i wr => ∃ (j : Nat) (ys : List Int) (c0 : Int), k + j ≤ NN ∧ j ≤ n' ∧ i = .int .i64 j ∧ c = .int .i64 c0 ∧ (0 ≤ c0 ∧ c0 < 1000000000) ∧ More w wr ∧ Hid (RowI w.heap.size 3 wr w.heap.size NN ys) ∧ Hid (MulRow a b k j ys c0) ∧ Hid (∀ p, k + n' ≤ p → ys.getD p 0 = 0)) (fun _ i _ => NN - (intOf i).toNat)
      case atStart => exact ⟨0, xs, 0, by omega, Nat.zero_le _, rfl, rfl, by omega, hm1, HR, HI1, HZ0⟩
      case round =>
        clear HR HI HI1 hm1 HZ0
        obtain ⟨j, ys, c0, hkj, hjn, rfl, rfl, hc0, hmi, HR, HI, HZ⟩ := hrel
        by_cases hb : j < n'
        · have hb1 : (j : Int) < (n' : Int) := by omega
          have hroom := HI.out.room (by rw [← HN'.out]; exact .inl hb)
          rw [HI.out.len, ← HNN.out] at hroom
          obtain ⟨p, hp⟩ : ∃ p, p = k + j := ⟨_, rfl⟩
          have hpN : p < NN := by omega
          have hpi : (p : Int) < (NN : Int) := by omega
          have hp0 : (0 : Int) ≤ (p : Int) := by omega
          have hwp : IntKind.i64.wrap ((k : Int) + (j : Int)) = (p : Int) := by rw [hp]; exact IntWalk.i64_in _ (by omega)
          have HP := Lib.hid hp
          clear hp
          obtain ⟨q0, f0, -, hg0⟩ := HR.out.get (k := p) hpN
          obtain ⟨b1, b2, b3, b4⟩ := HI.out.bound p
          obtain ⟨y, ey⟩ : ∃ y, (limbs b).getD j 0 = y := ⟨_, rfl⟩
          have GY := Lib.hid ey
          rw [ey, GX.out] at b1 b2
          clear ey
          obtain ⟨z, ez⟩ : ∃ z, ys.getD p 0 = z := ⟨_, rfl⟩
          rw [ez] at b3 b4 q0
          have EZ := Lib.hid ez; clear ez
          obtain ⟨m, em⟩ : ∃ m, m = x * y := ⟨_, rfl⟩
          rw [← em] at b1 b2
          have hwm : IntKind.i64.wrap (x * y) = m := by rw [← em]; exact IntWalk.i64_in _ (by omega)
          have hw2 : IntKind.i64.wrap (z + m) = z + m := IntWalk.i64_in _ (by omega)
          obtain ⟨s, es⟩ : ∃ s, s = z + m + c0 := ⟨_, rfl⟩
          have hw3 : IntKind.i64.wrap (z + m + c0) = s := by rw [es]; exact IntWalk.i64_in _ (by omega)
          have hs0 : 0 ≤ s := by omega
          obtain ⟨q, e1⟩ : ∃ q, s % 1000000000 = q := ⟨_, rfl⟩
          obtain ⟨r, e2⟩ : ∃ r, s / 1000000000 = r := ⟨_, rfl⟩
          have hq : 0 ≤ q ∧ q < 1000000000 := by omega
          have hr : 0 ≤ r ∧ r < 1000000000 := by omega
          have HI2 : Hid (MulRow a b k (j + 1) (ys.set p q) r) := Lib.hid (by
            rw [← e1, ← e2, ← tm_eq hs0, ← td_eq hs0, HP.out]
            exact HI.out.step (by rw [HI.out.len, ← HNN.out, ← HP.out]; exact hpN) (by rw [es, em, GX.out, GY.out, ← HP.out, EZ.out]))
          have HZ2 : Hid (∀ p', k + n' ≤ p' → (ys.set p q).getD p' 0 = 0) := Lib.hid (fun p' hp' => by have h5 := HP.out; rw [getD_set_ne (by omega)]; exact HZ.out p' hp')
          clear em es
          obtain ⟨py, offy, y', rfl, hblty, hxy, -, ccy⟩ := int_el (Ty.at_more HV'.out hmi) (k := j) (by rw [← HN'.out]; exact hb)
          obtain rfl : y = y' := by have h := GY.out; rw [List.getD_eq_getElem?_getD, hxy] at h; exact h.symm
          clear hxy
          go_wp2_with fail
          go_roundw
          case rel => exact ⟨j + 1, _, r, by omega, by omega, by go_num, (by first | rfl | rw [e2]), hr, mC2, Lib.hid (HR.out.set hpN (In64.small (by omega))), HI2, HZ2⟩
          case measure => simp [intOf]; omega
        have hb1 : ¬ (j : Int) < (n' : Int) := by omega
        obtain rfl : j = n' := by omega
        obtain ⟨p, hp⟩ : ∃ p, p = k + j := ⟨_, rfl⟩
        have hpN : p < NN := by omega
        have hpi : (p : Int) < (NN : Int) := by omega
        have hp0 : (0 : Int) ≤ (p : Int) := by omega
        have hwp : IntKind.i64.wrap ((k : Int) + (j : Int)) = (p : Int) := by rw [hp]; exact IntWalk.i64_in _ (by omega)
        obtain ⟨q0, f0, -, hg0⟩ := HR.out.get (k := p) hpN
        have HP := Lib.hid hp; clear hp
        go_wp2_with fail
        go_roundw
        case rel => exact ⟨k + 1, ys.set p c0, by omega, by go_num, mC2, Lib.hid (HR.out.set hpN (In64.small (by omega))), Lib.hid (by
          have h := HI.out
          rw [HN'.out] at h
          rw [HP.out, HN'.out]
          exact h.last (by rw [← HN'.out]; exact val_lt_zeros h.ok (fun p' hp' => HZ.out p' hp')))⟩
        case measure => simp [intOf]; omega
    · obtain rfl : k = n := by omega
      have HD : Hid (IsL xs ∧ val xs = ((a * b : Nat) : Int)) := Lib.hid (by have h := HI.out; rw [HN.out] at h; exact h.done)
      go_wp2_with (first | (go_at_call 79; refine (spec_l02Trim _ xs (a * b) _ (Ty.at_more HR.out.at mC) (by rw [HI.out.len, ← HNN.out]; omega) HD.out.1 HD.out.2).mono ?_; rintro e w9 ⟨u, rfl, hb9, g9⟩))
      go_ret
      exact ⟨_, rfl, More.trans hm1 mC, g9⟩
end Go.Proofs.YtnbefpfijaimjaaGreatDoor
/- Natural numbers as limbs: quotients by one limb; the reference's digit. -/
namespace Go.Proofs.YtnbefpfijaimjaaGreatDoor
open Go.RowKit
set_option maxRecDepth 4000 in
set_option maxHeartbeats 12800000 in
theorem impl_natDivSmall (v : Value) (a b : Nat) (w : World) (hv : tInts.at w [v] (limbs a)) (hl : (limbs a).length ≤ 4096) (hb0 : 0 < b) (hbB : b < 1000000000) :
    Calls Tryz.prog 125 #[v, .int .i64 (b : Int)] w fun e w' => ∃ u, e = .returned (.tuple #[u, .int .i64 ((a % b : Nat) : Int)]) ∧ More w w' ∧ tInts.at w' [u] (limbs (a / b)) := by
  obtain ⟨ao, cap, rfl⟩ := sl_len hv
  have HV := Lib.hid hv; clear hv
  obtain ⟨NN, hn⟩ : ∃ n, n = (limbs a).length := ⟨_, rfl⟩
  rw [← hn] at HV hl ⊢
  have HN := Lib.hid hn; clear hn
  obtain ⟨i0, hi, hz0, hz1, hz2⟩ := info_parts infoInt_
  go_enter Tryz.func125, Tryz.ntmps125
  go_wp2_with (at_make; refine wpList_make_full _ rfl _ _ 22 rfl w.heap.size 3 i0 (.int .i64 0) 1 Tryz.underlying22 hi hz0 hz1 _ _ _ _ NN rfl rfl ?_ ?_ ?_ ?_ ?_ ?_)
  all_goals first | rfl | omega | (rw [hz2]; omega) | (unfold maxLen; omega) | exact Nat.le_refl _ | skip
  intro w1 hown hgr
  have hb1 : More w w1 := Turns.more ((Turns.refl _ _).grown hgr (by simp))
  have HO : Hid (RowI w.heap.size 3 w1 w.heap.size NN (List.replicate NN 0)) := Lib.hid (RowI.made (by rw [Nat.mul_one]; exact hown))
  clear hown hgr
  go_wp2_with fail
  go_loopw [7, 8] (fun r i wr => ∃ (k : Nat) (xs : List Int) (r0 : Nat), k ≤ NN ∧ i = .int .i64 ((k : Int) - 1) ∧ r = .int .i64 (r0 : Int) ∧ r0 < b ∧ More w wr ∧ Hid (RowI w.heap.size 3 wr w.heap.size NN xs) ∧ Hid (DivInv a b k xs r0)) (fun _ i _ => (intOf i + 1).toNat)
  case atStart => exact ⟨NN, _, 0, Nat.le_refl _, by go_num, rfl, hb0, hb1, HO, Lib.hid (by rw [HN.out]; exact DivInv.start a b (by omega))⟩
  case round =>
    clear HO hb1
    obtain ⟨k, xs, r0, hk, rfl, rfl, hr0, hm, HR, HI⟩ := hrel
    by_cases h0 : 0 < k
    · obtain ⟨p, hp⟩ : ∃ p, k = p + 1 := ⟨k - 1, by omega⟩
      subst hp
      have hpN : p < NN := by omega
      have hpi : (p : Int) < (NN : Int) := by omega
      have hp0 : (0 : Int) ≤ (p : Int) := by omega
      have hkp : ((p + 1 : Nat) : Int) - 1 = (p : Int) := by omega
      rw [hkp]
      have hwk : IntKind.i64.wrap ((p : Int) - 1) = (p : Int) - 1 := IntWalk.i64_in _ (by omega)
      obtain ⟨px, offx, x, rfl, hbltx, hxx, -, ccx⟩ := int_el (Ty.at_more HV.out hm) (k := p) (by rw [← HN.out]; exact hpN)
      have GX : Hid ((limbs a).getD p 0 = x) := Lib.hid (by rw [List.getD_eq_getElem?_getD, hxx]; rfl)
      have hgx := limbs_get a p
      rw [GX.out] at hgx
      clear hxx
      obtain ⟨q0, f0, -, hg0⟩ := HR.out.get (k := p) hpN
      obtain ⟨m, hm'⟩ : ∃ m : Nat, (m : Int) = (r0 : Int) * 1000000000 + x := ⟨(r0 * 1000000000 + x.toNat), by omega⟩
      have HI2 : Hid (DivInv a b p (xs.set p ((m / b : Nat) : Int)) (m % b)) := Lib.hid (HI.out.step (by rw [GX.out]; exact hm'))
      have hmr : (m : Int) < 1000000000000000000 := by omega
      have hw1 : IntKind.i64.wrap ((r0 : Int) * 1000000000) = (r0 : Int) * 1000000000 := IntWalk.i64_in _ (by omega)
      have hw2 : IntKind.i64.wrap ((r0 : Int) * 1000000000 + x) = (m : Int) := by rw [← hm']; exact IntWalk.i64_in _ (by omega)
      have hbz : ((b : Int) == 0) = false := by simp; omega
      have hbz2 : ¬ b = 0 := by omega
      have hq : (m : Int).tdiv (b : Int) = ((m / b : Nat) : Int) := by rw [Int.tdiv_eq_ediv_of_nonneg (by omega)]; rfl
      have hr : (m : Int).tmod (b : Int) = ((m % b : Nat) : Int) := by rw [Int.tmod_eq_emod_of_nonneg (by omega)]; rfl
      have hmb : m / b ≤ m := Nat.div_le_self m b
      have hmm : m % b < b := Nat.mod_lt _ hb0
      have hsm : Hid (In64 ((m / b : Nat) : Int)) := Lib.hid (In64.small (by generalize m / b = qq at *; omega))
      obtain ⟨qq, hqq⟩ : ∃ qq, m / b = qq := ⟨_, rfl⟩
      obtain ⟨rr, hrr⟩ : ∃ rr, m % b = rr := ⟨_, rfl⟩
      rw [hqq] at hq HI2 hsm hmb
      rw [hrr] at hr HI2 hmm
      have hwq : IntKind.i64.wrap (qq : Int) = (qq : Int) := IntWalk.i64_in _ (by omega)
      clear hqq hrr hm'
      go_wp2_with fail
      go_roundw
      case rel => exact ⟨p, _, rr, by omega, (by first | rfl | go_num), rfl, hmm, mC2, Lib.hid (HR.out.set hpN hsm.out), HI2⟩
      case measure => simp [intOf]; try omega
    · have hk0 : k = 0 := by omega
      subst hk0
      have HD := Lib.hid HI.out.done
      go_wp2_with (go_at_call 88; refine (impl_trimmed _ xs (a / b) _ (Ty.at_more HR.out.at mC) (by rw [HI.out.len, ← HN.out]; omega) HD.out.1 HD.out.2.1).mono ?_; rintro e w9 ⟨u, rfl, hb9, g9⟩)
      go_ret2
      exact ⟨u, congrArg (fun z : Nat => Ending.returned (Value.tuple #[u, Value.int .i64 (z : Int)])) HD.out.2.2, mC, g9⟩
set_option maxRecDepth 4000 in
set_option maxHeartbeats 12800000 in
theorem spec_l02Small (v : Value) (a b : Nat) (w : World) (hv : tInts.at w [v] (limbs a)) (hl : (limbs a).length ≤ 4096) (hb0 : 0 < b) (hbB : b < 1000000000) :
    Calls Tryz.prog 176 #[v, .int .i64 (b : Int)] w fun e w' => ∃ u, e = .returned (.tuple #[u, .int .i64 ((a % b : Nat) : Int)]) ∧ More w w' ∧ tInts.at w' [u] (limbs (a / b)) := by
  obtain ⟨ao, cap, rfl⟩ := sl_len hv
  have HV := Lib.hid hv; clear hv
  obtain ⟨NN, hn⟩ : ∃ n, n = (limbs a).length := ⟨_, rfl⟩
  rw [← hn] at HV hl ⊢
  have HN := Lib.hid hn; clear hn
  obtain ⟨i0, hi, hz0, hz1, hz2⟩ := info_parts infoInt_
  go_enter Tryz.func176, Tryz.ntmps176
  go_wp2_with (at_make; refine wpList_make_full _ rfl _ _ 22 rfl w.heap.size 3 i0 (.int .i64 0) 1 Tryz.underlying22 hi hz0 hz1 _ _ _ _ NN rfl rfl ?_ ?_ ?_ ?_ ?_ ?_)
  all_goals first | rfl | omega | (rw [hz2]; omega) | (unfold maxLen; omega) | exact Nat.le_refl _ | skip
  intro w1 hown hgr
  have hb1 : More w w1 := Turns.more ((Turns.refl _ _).grown hgr (by simp))
  have HO : Hid (RowI w.heap.size 3 w1 w.heap.size NN (List.replicate NN 0)) := Lib.hid (RowI.made (by rw [Nat.mul_one]; exact hown))
  clear hown hgr
  go_wp2_with fail
  go_loopw [7, 8] (fun r i wr => ∃ (k : Nat) (xs : List Int) (r0 : Nat), k ≤ NN ∧ i = .int .i64 ((k : Int) - 1) ∧ r = .int .i64 (r0 : Int) ∧ r0 < b ∧ More w wr ∧ Hid (RowI w.heap.size 3 wr w.heap.size NN xs) ∧ Hid (DivInv a b k xs r0)) (fun _ i _ => (intOf i + 1).toNat)
  case atStart => exact ⟨NN, _, 0, Nat.le_refl _, by go_num, rfl, hb0, hb1, HO, Lib.hid (by rw [HN.out]; exact DivInv.start a b (by omega))⟩
  case round =>
    clear HO hb1
    obtain ⟨k, xs, r0, hk, rfl, rfl, hr0, hm, HR, HI⟩ := hrel
    by_cases h0 : 0 < k
    · obtain ⟨p, hp⟩ : ∃ p, k = p + 1 := ⟨k - 1, by omega⟩
      subst hp
      have hpN : p < NN := by omega
      have hpi : (p : Int) < (NN : Int) := by omega
      have hp0 : (0 : Int) ≤ (p : Int) := by omega
      have hkp : ((p + 1 : Nat) : Int) - 1 = (p : Int) := by omega
      rw [hkp]
      have hwk : IntKind.i64.wrap ((p : Int) - 1) = (p : Int) - 1 := IntWalk.i64_in _ (by omega)
      obtain ⟨px, offx, x, rfl, hbltx, hxx, -, ccx⟩ := int_el (Ty.at_more HV.out hm) (k := p) (by rw [← HN.out]; exact hpN)
      have GX : Hid ((limbs a).getD p 0 = x) := Lib.hid (by rw [List.getD_eq_getElem?_getD, hxx]; rfl)
      have hgx := limbs_get a p
      rw [GX.out] at hgx
      clear hxx
      obtain ⟨q0, f0, -, hg0⟩ := HR.out.get (k := p) hpN
      obtain ⟨m, hm'⟩ : ∃ m : Nat, (m : Int) = (r0 : Int) * 1000000000 + x := ⟨(r0 * 1000000000 + x.toNat), by omega⟩
      have HI2 : Hid (DivInv a b p (xs.set p ((m / b : Nat) : Int)) (m % b)) := Lib.hid (HI.out.step (by rw [GX.out]; exact hm'))
      have hmr : (m : Int) < 1000000000000000000 := by omega
      have hw1 : IntKind.i64.wrap ((r0 : Int) * 1000000000) = (r0 : Int) * 1000000000 := IntWalk.i64_in _ (by omega)
      have hw2 : IntKind.i64.wrap ((r0 : Int) * 1000000000 + x) = (m : Int) := by rw [← hm']; exact IntWalk.i64_in _ (by omega)
      have hbz : ((b : Int) == 0) = false := by simp; omega
      have hbz2 : ¬ b = 0 := by omega
      have hq : (m : Int).tdiv (b : Int) = ((m / b : Nat) : Int) := by rw [Int.tdiv_eq_ediv_of_nonneg (by omega)]; rfl
      have hr : (m : Int).tmod (b : Int) = ((m % b : Nat) : Int) := by rw [Int.tmod_eq_emod_of_nonneg (by omega)]; rfl
      have hmb : m / b ≤ m := Nat.div_le_self m b
      have hmm : m % b < b := Nat.mod_lt _ hb0
      have hsm : Hid (In64 ((m / b : Nat) : Int)) := Lib.hid (In64.small (by generalize m / b = qq at *; omega))
      obtain ⟨qq, hqq⟩ : ∃ qq, m / b = qq := ⟨_, rfl⟩
      obtain ⟨rr, hrr⟩ : ∃ rr, m % b = rr := ⟨_, rfl⟩
      rw [hqq] at hq HI2 hsm hmb
      rw [hrr] at hr HI2 hmm
      have hwq : IntKind.i64.wrap (qq : Int) = (qq : Int) := IntWalk.i64_in _ (by omega)
      clear hqq hrr hm'
      go_wp2_with fail
      go_roundw
      case rel => exact ⟨p, _, rr, by omega, (by first | rfl | go_num), rfl, hmm, mC2, Lib.hid (HR.out.set hpN hsm.out), HI2⟩
      case measure => simp [intOf]; try omega
    · have hk0 : k = 0 := by omega
      subst hk0
      have HD := Lib.hid HI.out.done
      go_wp2_with (go_at_call 79; refine (spec_l02Trim _ xs (a / b) _ (Ty.at_more HR.out.at mC) (by rw [HI.out.len, ← HN.out]; omega) HD.out.1 HD.out.2.1).mono ?_; rintro e w9 ⟨u, rfl, hb9, g9⟩)
      go_ret2
      exact ⟨u, congrArg (fun z : Nat => Ending.returned (Value.tuple #[u, Value.int .i64 (z : Int)])) HD.out.2.2, mC, g9⟩
set_option maxRecDepth 4000 in
set_option maxHeartbeats 12800000 in
theorem spec_l02Digit (v v' : Value) (a b : Nat) (w : World) (hv : tInts.at w [v] (limbs a)) (hv' : tInts.at w [v'] (limbs b)) (hl : (limbs a).length ≤ 4096) (hm : (limbs b).length ≤ 4096) (hb0 : 0 < b) (hab : a < b * 1000000000) :
    Calls Tryz.prog 177 #[v, v'] w fun e w' => e = .returned (.int .i64 ((a / b : Nat) : Int)) ∧ More w w' := by
  have HV := Lib.hid hv; have HV' := Lib.hid hv'; have HL := Lib.hid hl; have HM := Lib.hid hm; have HAB := Lib.hid hab; clear hv hv' hl hm hab
  go_enter Tryz.func177, Tryz.ntmps177
  go_wp2_with fail
  go_loopw [5, 6] (fun lo hi wr => ∃ l h : Int, lo = .int .i64 l ∧ hi = .int .i64 h ∧ (0 ≤ l ∧ h < 1000000000) ∧ More w wr ∧ Hid (DigInv a b l h)) (fun lo hi _ => (intOf hi - intOf lo).toNat)
  case atStart => exact ⟨0, 999999999, rfl, rfl, by omega, mC, Lib.hid (DigInv.start hb0 HAB.out)⟩
  case round =>
    obtain ⟨l, h, rfl, rfl, hlh, hm, HI⟩ := hrel
    by_cases hlt : l < h
    · obtain ⟨m, hm'⟩ : ∃ m : Nat, (m : Int) = (l + h + 1) / 2 := ⟨((l + h + 1) / 2).toNat, by omega⟩
      have hml : l < (m : Int) := by omega
      have hmh : (m : Int) ≤ h := by omega
      have hw1 : IntKind.i64.wrap (l + h) = l + h := IntWalk.i64_in _ (by omega)
      have hw2 : IntKind.i64.wrap (l + h + 1) = l + h + 1 := IntWalk.i64_in _ (by omega)
      have hmt : (l + h + 1).tdiv 2 = (m : Int) := by rw [Int.tdiv_eq_ediv_of_nonneg (by omega)]; exact hm'.symm
      have hme : (l + h + 1) / 2 = (m : Int) := hm'.symm
      clear hm'
      have hM : m < 1000000000 := by omega
      have HLm : Hid ((limbs m).length ≤ 4096) := Lib.hid (Nat.le_trans (limbs_len_le (k := 1).2 (by show (m : Int) < bp 1; rw [bp_succ]; show (m : Int) < 1000000000 * 1; omega)) (by decide))
      have HLbm : Hid ((limbs (b * m)).length ≤ 1048576) := Lib.hid (by have h1 := limbs_len_mul b m; have h2 := HM.out; have h3 := HLm.out; omega)
      have HLa : Hid ((limbs a).length ≤ 1048576) := Lib.hid (by have := HL.out; omega)
      by_cases hle : b * m ≤ a
      · have hc0 : cmpI ((b * m : Nat) : Int) (a : Int) ≤ 0 := by unfold cmpI; split <;> (try split) <;> omega
        obtain ⟨c, ec⟩ : ∃ c, cmpI ((b * m : Nat) : Int) (a : Int) = c := ⟨_, rfl⟩
        have EC := Lib.hid ec
        rw [ec] at hc0; clear ec
        go_wp2_with (first | (go_at_call 130; refine (spec_NatOf m _ (by omega)).mono ?_; rintro e w1 ⟨u1, rfl, hb1, g1⟩; have G1 := Lib.hid g1; clear g1) | (go_at_call 129; refine (spec_l02Mul _ _ b m _ (Ty.at_more HV'.out mC) (Ty.at_more G1.out mC) HM.out HLm.out).mono ?_; rintro e w2 ⟨u2, rfl, hb2, g2⟩; have G2 := Lib.hid g2; clear g2) | (go_at_call 159; refine (spec_l02Cmp _ _ (b * m) a _ (Ty.at_more G2.out mC) (Ty.at_more HV.out mC) HLbm.out HLa.out).mono ?_; rintro e w3 ⟨rfl, hb3⟩; rw [EC.out]))
        go_roundw
        case rel => exact ⟨(m : Int), h, rfl, rfl, by omega, mC, Lib.hid (HI.out.take hb0 (by omega) (by simpa using hle))⟩
        case measure => simp [intOf]; omega
      · have hc0 : ¬ cmpI ((b * m : Nat) : Int) (a : Int) ≤ 0 := by unfold cmpI; split <;> (try split) <;> omega
        obtain ⟨c, ec⟩ : ∃ c, cmpI ((b * m : Nat) : Int) (a : Int) = c := ⟨_, rfl⟩
        have EC := Lib.hid ec
        rw [ec] at hc0; clear ec
        have hw3 : IntKind.i64.wrap ((m : Int) - 1) = (m : Int) - 1 := IntWalk.i64_in _ (by omega)
        go_wp2_with (first | (go_at_call 130; refine (spec_NatOf m _ (by omega)).mono ?_; rintro e w1 ⟨u1, rfl, hb1, g1⟩; have G1 := Lib.hid g1; clear g1) | (go_at_call 129; refine (spec_l02Mul _ _ b m _ (Ty.at_more HV'.out mC) (Ty.at_more G1.out mC) HM.out HLm.out).mono ?_; rintro e w2 ⟨u2, rfl, hb2, g2⟩; have G2 := Lib.hid g2; clear g2) | (go_at_call 159; refine (spec_l02Cmp _ _ (b * m) a _ (Ty.at_more G2.out mC) (Ty.at_more HV.out mC) HLbm.out HLa.out).mono ?_; rintro e w3 ⟨rfl, hb3⟩; rw [EC.out]))
        go_roundw
        case rel => exact ⟨l, (m : Int) - 1, rfl, by go_num, by omega, mC, Lib.hid (HI.out.drop hb0 (by omega) hmh (by simpa using Nat.lt_of_not_le hle))⟩
        case measure => simp [intOf]; omega
    · go_wp2_with fail
      go_ret
      exact ⟨ret_int (HI.out.done (by omega)), hm⟩
end Go.Proofs.YtnbefpfijaimjaaGreatDoor
