/- Natural numbers as limbs: sum and difference: the program's and the reference's. -/
import Derived.Test.YtnbefpfijaimjaaGreatDoorRows
import Derived.Test.YtnbefpfijaimjaaGreatDoorNatA
import Derived.Test.YtnbefpfijaimjaaGreatDoorApp
import Derived.Deep.RegionHeld3
import Derived.Deep.QuietTactic
import Derived.BigQuiet
import Derived.IntWalk
namespace Go.Proofs.YtnbefpfijaimjaaGreatDoor
open Go.RowKit
theorem impl_limb_ (v : Value) (l : List Int) (i : Nat) (x : Int) (w : World) (hv : tInts.at w [v] l) (hx : l.getD i 0 = x) :
    Calls Tryz.prog 146 #[v, .int .i64 (i : Int)] w fun e w' => e = .returned (.int .i64 x) ∧ More w w' := by
  subst hx
  exact impl_limb v l i w hv
set_option maxRecDepth 4000 in
set_option maxHeartbeats 6400000 in
theorem impl_natAdd (v v' : Value) (a b : Nat) (w : World) (hv : tInts.at w [v] (limbs a)) (hv' : tInts.at w [v'] (limbs b)) (hl : (limbs a).length ≤ 4096) (hm : (limbs b).length ≤ 4096) :
    Calls Tryz.prog 141 #[v, v'] w fun e w' => ∃ u, e = .returned u ∧ More w w' ∧ tInts.at w' [u] (limbs (a + b)) := by
  obtain ⟨ao, cap, rfl⟩ := sl_len hv
  obtain ⟨ao', cap', rfl⟩ := sl_len hv'
  have HV := Lib.hid hv; clear hv
  have HV' := Lib.hid hv'; clear hv'
  obtain ⟨n, hn⟩ : ∃ n, n = (limbs a).length := ⟨_, rfl⟩
  obtain ⟨n', hn'⟩ : ∃ n', n' = (limbs b).length := ⟨_, rfl⟩
  rw [← hn] at HV hl ⊢
  rw [← hn'] at HV' hm ⊢
  have HN := Lib.hid hn; have HN' := Lib.hid hn'; clear hn hn'
  obtain ⟨i0, hi, hz0, hz1, hz2⟩ := info_parts infoInt_
  go_enter Tryz.func141, Tryz.ntmps141
  go_wp2_with (at_make; refine wpList_make_own _ rfl _ _ 22 rfl w.heap.size 3 i0 (.int .i64 0) 1 Tryz.underlying22 hi hz0 hz1 _ _ _ (max n n' + 1) rfl rfl ?_ ?_ ?_ ?_ ?_)
  all_goals first | omega | (rw [hz2]; omega) | (unfold maxLen; omega) | exact Nat.le_refl _ | skip
  all_goals
    intro w1 hown hgr
    have hb1 : More w w1 := Turns.more ((Turns.refl _ _).grown hgr (by simp))
    have HO : Hid (FlatOwn fInt w.heap.size 3 w1 (.slice (some ⟨w.heap.size, 0, none⟩) 0 _) []) := Lib.hid (FlatOwn.made hown)
    clear hown hgr
    go_wp2_with fail
    go_loopw [5, 6, 7] (fun v c i wr => ∃ (k : Nat) (xs : List Int) (c0 : Int), k ≤ max n n' + 1 ∧ i = .int .i64 k ∧ c = .int .i64 c0 ∧ (c0 = 0 ∨ c0 = 1) ∧ More w wr ∧ Hid (FlatOwn fInt w.heap.size 3 wr v xs) ∧ Hid (AddInv a b k xs c0)) (fun _ _ i _ => max n n' + 1 - (intOf i).toNat)
    case atStart => exact ⟨0, [], 0, Nat.zero_le _, rfl, rfl, .inl rfl, hb1, HO, Lib.hid (AddInv.start a b)⟩
    case round =>
      clear HO hb1
      obtain ⟨k, xs, c0, hk, rfl, rfl, hc0, hm, HL, HI⟩ := hrel
      have hgx := limbs_get a k; have hgy := limbs_get b k
      obtain ⟨x, ex⟩ : ∃ x, (limbs a).getD k 0 = x := ⟨_, rfl⟩
      obtain ⟨y, ey⟩ : ∃ y, (limbs b).getD k 0 = y := ⟨_, rfl⟩
      rw [ex] at hgx; rw [ey] at hgy
      have GX := Lib.hid ex; have GY := Lib.hid ey; clear ex ey
      have HLen : Hid (xs.length ≤ 2097152) := Lib.hid (by rw [HI.out.len]; omega)
      by_cases ha : k < n
      · have ha1 : (k : Int) < (n : Int) := by omega
        have hs0 : 0 ≤ x + y + c0 := by omega
        obtain ⟨q, e1⟩ : ∃ q, (x + y + c0) % 1000000000 = q := ⟨_, rfl⟩
        obtain ⟨r, e2⟩ : ∃ r, (x + y + c0) / 1000000000 = r := ⟨_, rfl⟩
        have hq : 0 ≤ q ∧ q < 1000000000 := by omega
        have hr : r = 0 ∨ r = 1 := by omega
        have hk1 : k + 1 ≤ max n n' + 1 := by
          rcases HI.out.top with h | h
          · have h7 := HN.out; have h8 := HN'.out; omega
          · have h7 := HN.out; have h8 := HN'.out; omega
        have HI2 : Hid (AddInv a b (k + 1) (xs ++ [q]) r) := Lib.hid (by rw [← e1, ← e2, ← tm_eq hs0, ← td_eq hs0]; exact HI.out.step (by rw [← HN.out, ← HN'.out]; exact .inl ha) (by rw [GX.out, GY.out]; try omega))
        go_wp2_with (first | (go_at_call 146; (with_reducible refine (impl_limb_ (.slice ao n cap) (limbs a) k x _ (Ty.at_more HV.out mC) GX.out).mono ?_); rintro e w3 ⟨rfl, hb3⟩) | (go_at_call 146; (with_reducible refine (impl_limb_ (.slice ao' n' cap') (limbs b) k y _ (Ty.at_more HV'.out mC) GY.out).mono ?_); rintro e w4 ⟨rfl, hb4⟩) | (at_builtin; refine wpList_pushFlat fInt wr rfl _ _ 22 rfl w.heap.size 3 i0 (.int .i64 0) 8 Tryz.underlying22 hi hz0 hz1 hz2 rfl (by decide) rfl HL.out mC rfl (by simp) (y := q) (by simp [fInt]) (In64.small (by omega)) HLen (by decide) (Lib.hid hm.size) ?_))
        intro v' w9 hl2 hmw
        go_wp2_with fail
        go_roundw
        case rel => exact ⟨k + 1, _, r, hk1, by go_num, (by first | rfl | rw [e2]), hr, hmw _ rfl mC, Lib.hid hl2, HI2⟩
        case measure => simp [intOf]; omega
      have ha1 : ¬ (k : Int) < (n : Int) := by omega
      by_cases hb : k < n'
      · have hb1 : (k : Int) < (n' : Int) := by omega
        first | (exfalso; omega) | skip
        all_goals
          have hs0 : 0 ≤ x + y + c0 := by omega
          obtain ⟨q, e1⟩ : ∃ q, (x + y + c0) % 1000000000 = q := ⟨_, rfl⟩
          obtain ⟨r, e2⟩ : ∃ r, (x + y + c0) / 1000000000 = r := ⟨_, rfl⟩
          have hq : 0 ≤ q ∧ q < 1000000000 := by omega
          have hr : r = 0 ∨ r = 1 := by omega
          have hk1 : k + 1 ≤ max n n' + 1 := by
            rcases HI.out.top with h | h
            · have h7 := HN.out; have h8 := HN'.out; omega
            · have h7 := HN.out; have h8 := HN'.out; omega
          have HI2 : Hid (AddInv a b (k + 1) (xs ++ [q]) r) := Lib.hid (by rw [← e1, ← e2, ← tm_eq hs0, ← td_eq hs0]; exact HI.out.step (by rw [← HN.out, ← HN'.out]; exact .inr (.inl hb)) (by rw [GX.out, GY.out]; try omega))
          go_wp2_with (first | (go_at_call 146; (with_reducible refine (impl_limb_ (.slice ao n cap) (limbs a) k x _ (Ty.at_more HV.out mC) GX.out).mono ?_); rintro e w3 ⟨rfl, hb3⟩) | (go_at_call 146; (with_reducible refine (impl_limb_ (.slice ao' n' cap') (limbs b) k y _ (Ty.at_more HV'.out mC) GY.out).mono ?_); rintro e w4 ⟨rfl, hb4⟩) | (at_builtin; refine wpList_pushFlat fInt wr rfl _ _ 22 rfl w.heap.size 3 i0 (.int .i64 0) 8 Tryz.underlying22 hi hz0 hz1 hz2 rfl (by decide) rfl HL.out mC rfl (by simp) (y := q) (by simp [fInt]) (In64.small (by omega)) HLen (by decide) (Lib.hid hm.size) ?_))
          intro v' w9 hl2 hmw
          go_wp2_with fail
          go_roundw
          case rel => exact ⟨k + 1, _, r, hk1, by go_num, (by first | rfl | rw [e2]), hr, hmw _ rfl mC, Lib.hid hl2, HI2⟩
          case measure => simp [intOf]; omega
      have hb1 : ¬ (k : Int) < (n' : Int) := by omega
      by_cases hc : 0 < c0
      · skip
        have hs0 : 0 ≤ x + y + c0 := by omega
        obtain ⟨q, e1⟩ : ∃ q, (x + y + c0) % 1000000000 = q := ⟨_, rfl⟩
        obtain ⟨r, e2⟩ : ∃ r, (x + y + c0) / 1000000000 = r := ⟨_, rfl⟩
        have hq : 0 ≤ q ∧ q < 1000000000 := by omega
        have hr : r = 0 ∨ r = 1 := by omega
        have hk1 : k + 1 ≤ max n n' + 1 := by
          rcases HI.out.top with h | h
          · have h7 := HN.out; have h8 := HN'.out; omega
          · have h7 := HN.out; have h8 := HN'.out; omega
        have HI2 : Hid (AddInv a b (k + 1) (xs ++ [q]) r) := Lib.hid (by rw [← e1, ← e2, ← tm_eq hs0, ← td_eq hs0]; exact HI.out.step (by rw [← HN.out, ← HN'.out]; exact .inr (.inr hc)) (by rw [GX.out, GY.out]; try omega))
        go_wp2_with (first | (go_at_call 146; (with_reducible refine (impl_limb_ (.slice ao n cap) (limbs a) k x _ (Ty.at_more HV.out mC) GX.out).mono ?_); rintro e w3 ⟨rfl, hb3⟩) | (go_at_call 146; (with_reducible refine (impl_limb_ (.slice ao' n' cap') (limbs b) k y _ (Ty.at_more HV'.out mC) GY.out).mono ?_); rintro e w4 ⟨rfl, hb4⟩) | (at_builtin; refine wpList_pushFlat fInt wr rfl _ _ 22 rfl w.heap.size 3 i0 (.int .i64 0) 8 Tryz.underlying22 hi hz0 hz1 hz2 rfl (by decide) rfl HL.out mC rfl (by simp) (y := q) (by simp [fInt]) (In64.small (by omega)) HLen (by decide) (Lib.hid hm.size) ?_))
        intro v' w9 hl2 hmw
        go_wp2_with fail
        go_roundw
        case rel => exact ⟨k + 1, _, r, hk1, by go_num, (by first | rfl | rw [e2]), hr, hmw _ rfl mC, Lib.hid hl2, HI2⟩
        case measure => simp [intOf]; omega
      go_wp2_with fail
      go_ret
      exact ⟨_, rfl, hm, by rw [← HI.out.done (by rw [← HN.out]; exact ha) (by rw [← HN'.out]; exact hb) (by omega)]; exact HL.out.at⟩
set_option maxRecDepth 4000 in
set_option maxHeartbeats 6400000 in
theorem spec_l02Add (v v' : Value) (a b : Nat) (w : World) (hv : tInts.at w [v] (limbs a)) (hv' : tInts.at w [v'] (limbs b)) (hl : (limbs a).length ≤ 4096) (_hm : (limbs b).length ≤ 4096) :
    Calls Tryz.prog 158 #[v, v'] w fun e w' => ∃ u, e = .returned u ∧ More w w' ∧ tInts.at w' [u] (limbs (a + b)) := by
  obtain ⟨ao, cap, rfl⟩ := sl_len hv
  obtain ⟨ao', cap', rfl⟩ := sl_len hv'
  have HV := Lib.hid hv; clear hv
  have HV' := Lib.hid hv'; clear hv'
  obtain ⟨n, hn⟩ : ∃ n, n = (limbs a).length := ⟨_, rfl⟩
  obtain ⟨n', hn'⟩ : ∃ n', n' = (limbs b).length := ⟨_, rfl⟩
  rw [← hn] at HV hl ⊢
  rw [← hn'] at HV' _hm ⊢
  have HN := Lib.hid hn; have HN' := Lib.hid hn'; clear hn hn'
  obtain ⟨i0, hi, hz0, hz1, hz2⟩ := info_parts infoInt_
  go_enter Tryz.func158, Tryz.ntmps158
  go_wp2_with fail
  go_loopw [5, 6, 7] (fun v c i wr => ∃ (k : Nat) (xs : List Int) (c0 : Int), k ≤ max n n' + 1 ∧ i = .int .i64 k ∧ c = .int .i64 c0 ∧ (c0 = 0 ∨ c0 = 1) ∧ More w wr ∧ Hid (FlatOwn fInt w.heap.size 3 wr v xs) ∧ Hid (AddInv a b k xs c0)) (fun _ _ i _ => max n n' + 1 - (intOf i).toNat)
  case atStart => exact ⟨0, [], 0, Nat.zero_le _, rfl, rfl, .inl rfl, mC, Lib.hid (FlatOwn.lit (Nat.le_refl _)), Lib.hid (AddInv.start a b)⟩
  case round =>
    skip
    obtain ⟨k, xs, c0, hk, rfl, rfl, hc0, hm, HL, HI⟩ := hrel
    have hgx := limbs_get a k; have hgy := limbs_get b k
    obtain ⟨x, ex⟩ : ∃ x, (limbs a).getD k 0 = x := ⟨_, rfl⟩
    obtain ⟨y, ey⟩ : ∃ y, (limbs b).getD k 0 = y := ⟨_, rfl⟩
    rw [ex] at hgx; rw [ey] at hgy
    have GX := Lib.hid ex; have GY := Lib.hid ey; clear ex ey
    have HLen : Hid (xs.length ≤ 2097152) := Lib.hid (by rw [HI.out.len]; omega)
    by_cases ha : k < n
    · have ha1 : (k : Int) < (n : Int) := by omega
      obtain ⟨px, offx, x', rfl, hbltx, hxx, -, ccx⟩ := int_el (Ty.at_more HV.out hm) (k := k) (by rw [← HN.out]; exact ha)
      obtain rfl : x = x' := by have h := GX.out; rw [List.getD_eq_getElem?_getD, hxx] at h; exact h.symm
      clear hxx
      by_cases hb : k < n'
      · have hb1 : (k : Int) < (n' : Int) := by omega
        obtain ⟨py, offy, y', rfl, hblty, hxy, -, ccy⟩ := int_el (Ty.at_more HV'.out hm) (k := k) (by rw [← HN'.out]; exact hb)
        obtain rfl : y = y' := by have h := GY.out; rw [List.getD_eq_getElem?_getD, hxy] at h; exact h.symm
        clear hxy
        have hs0 : 0 ≤ c0 + x + y := by omega
        obtain ⟨q, e1⟩ : ∃ q, (c0 + x + y) % 1000000000 = q := ⟨_, rfl⟩
        obtain ⟨r, e2⟩ : ∃ r, (c0 + x + y) / 1000000000 = r := ⟨_, rfl⟩
        have hq : 0 ≤ q ∧ q < 1000000000 := by omega
        have hr : r = 0 ∨ r = 1 := by omega
        have hk1 : k + 1 ≤ max n n' + 1 := by
          rcases HI.out.top with h | h
          · have h7 := HN.out; have h8 := HN'.out; omega
          · have h7 := HN.out; have h8 := HN'.out; omega
        have HI2 : Hid (AddInv a b (k + 1) (xs ++ [q]) r) := Lib.hid (by rw [← e1, ← e2, ← tm_eq hs0, ← td_eq hs0]; exact HI.out.step (by rw [← HN.out, ← HN'.out]; exact .inl ha) (by rw [GX.out, GY.out]; try omega))
        go_wp2_with (first | (at_builtin; refine wpList_pushFlat fInt wr rfl _ _ 22 rfl w.heap.size 3 i0 (.int .i64 0) 8 Tryz.underlying22 hi hz0 hz1 hz2 rfl (by decide) rfl HL.out mC rfl (by simp) (y := q) (by simp [fInt]) (In64.small (by omega)) HLen (by decide) (Lib.hid hm.size) ?_))
        intro v' w9 hl2 hmw
        go_wp2_with fail
        go_roundw
        case rel => exact ⟨k + 1, _, r, hk1, by go_num, (by first | rfl | rw [e2]), hr, hmw _ rfl mC, Lib.hid hl2, HI2⟩
        case measure => simp [intOf]; omega
      · have hb1 : ¬ (k : Int) < (n' : Int) := by omega
        obtain rfl : y = 0 := by have h := GY.out; rw [List.getD_eq_getElem?_getD, List.getElem?_eq_none (by rw [← HN'.out]; omega)] at h; exact h.symm
        have hs0 : 0 ≤ c0 + x := by omega
        obtain ⟨q, e1⟩ : ∃ q, (c0 + x) % 1000000000 = q := ⟨_, rfl⟩
        obtain ⟨r, e2⟩ : ∃ r, (c0 + x) / 1000000000 = r := ⟨_, rfl⟩
        have hq : 0 ≤ q ∧ q < 1000000000 := by omega
        have hr : r = 0 ∨ r = 1 := by omega
        have hk1 : k + 1 ≤ max n n' + 1 := by
          rcases HI.out.top with h | h
          · have h7 := HN.out; have h8 := HN'.out; omega
          · have h7 := HN.out; have h8 := HN'.out; omega
        have HI2 : Hid (AddInv a b (k + 1) (xs ++ [q]) r) := Lib.hid (by rw [← e1, ← e2, ← tm_eq hs0, ← td_eq hs0]; exact HI.out.step (by rw [← HN.out, ← HN'.out]; exact .inl ha) (by rw [GX.out, GY.out]; try omega))
        go_wp2_with (first | (at_builtin; refine wpList_pushFlat fInt wr rfl _ _ 22 rfl w.heap.size 3 i0 (.int .i64 0) 8 Tryz.underlying22 hi hz0 hz1 hz2 rfl (by decide) rfl HL.out mC rfl (by simp) (y := q) (by simp [fInt]) (In64.small (by omega)) HLen (by decide) (Lib.hid hm.size) ?_))
        intro v' w9 hl2 hmw
        go_wp2_with fail
        go_roundw
        case rel => exact ⟨k + 1, _, r, hk1, by go_num, (by first | rfl | rw [e2]), hr, hmw _ rfl mC, Lib.hid hl2, HI2⟩
        case measure => simp [intOf]; omega
    have ha1 : ¬ (k : Int) < (n : Int) := by omega
    obtain rfl : x = 0 := by have h := GX.out; rw [List.getD_eq_getElem?_getD, List.getElem?_eq_none (by rw [← HN.out]; omega)] at h; exact h.symm
    by_cases hb : k < n'
    · have hb1 : (k : Int) < (n' : Int) := by omega
      obtain ⟨py, offy, y', rfl, hblty, hxy, -, ccy⟩ := int_el (Ty.at_more HV'.out hm) (k := k) (by rw [← HN'.out]; exact hb)
      obtain rfl : y = y' := by have h := GY.out; rw [List.getD_eq_getElem?_getD, hxy] at h; exact h.symm
      clear hxy
      have hs0 : 0 ≤ c0 + y := by omega
      obtain ⟨q, e1⟩ : ∃ q, (c0 + y) % 1000000000 = q := ⟨_, rfl⟩
      obtain ⟨r, e2⟩ : ∃ r, (c0 + y) / 1000000000 = r := ⟨_, rfl⟩
      have hq : 0 ≤ q ∧ q < 1000000000 := by omega
      have hr : r = 0 ∨ r = 1 := by omega
      have hk1 : k + 1 ≤ max n n' + 1 := by
        rcases HI.out.top with h | h
        · have h7 := HN.out; have h8 := HN'.out; omega
        · have h7 := HN.out; have h8 := HN'.out; omega
      have HI2 : Hid (AddInv a b (k + 1) (xs ++ [q]) r) := Lib.hid (by rw [← e1, ← e2, ← tm_eq hs0, ← td_eq hs0]; exact HI.out.step (by rw [← HN.out, ← HN'.out]; exact .inr (.inl hb)) (by rw [GX.out, GY.out]; try omega))
      go_wp2_with (first | (at_builtin; refine wpList_pushFlat fInt wr rfl _ _ 22 rfl w.heap.size 3 i0 (.int .i64 0) 8 Tryz.underlying22 hi hz0 hz1 hz2 rfl (by decide) rfl HL.out mC rfl (by simp) (y := q) (by simp [fInt]) (In64.small (by omega)) HLen (by decide) (Lib.hid hm.size) ?_))
      intro v' w9 hl2 hmw
      go_wp2_with fail
      go_roundw
      case rel => exact ⟨k + 1, _, r, hk1, by go_num, (by first | rfl | rw [e2]), hr, hmw _ rfl mC, Lib.hid hl2, HI2⟩
      case measure => simp [intOf]; omega
    have hb1 : ¬ (k : Int) < (n' : Int) := by omega
    obtain rfl : y = 0 := by have h := GY.out; rw [List.getD_eq_getElem?_getD, List.getElem?_eq_none (by rw [← HN'.out]; omega)] at h; exact h.symm
    by_cases hc : 0 < c0
    · skip
      have hs0 : 0 ≤ c0 := by omega
      obtain ⟨q, e1⟩ : ∃ q, (c0) % 1000000000 = q := ⟨_, rfl⟩
      obtain ⟨r, e2⟩ : ∃ r, (c0) / 1000000000 = r := ⟨_, rfl⟩
      have hq : 0 ≤ q ∧ q < 1000000000 := by omega
      have hr : r = 0 ∨ r = 1 := by omega
      have hk1 : k + 1 ≤ max n n' + 1 := by
        rcases HI.out.top with h | h
        · have h7 := HN.out; have h8 := HN'.out; omega
        · have h7 := HN.out; have h8 := HN'.out; omega
      have HI2 : Hid (AddInv a b (k + 1) (xs ++ [q]) r) := Lib.hid (by rw [← e1, ← e2, ← tm_eq hs0, ← td_eq hs0]; exact HI.out.step (by rw [← HN.out, ← HN'.out]; exact .inr (.inr hc)) (by rw [GX.out, GY.out]; try omega))
      go_wp2_with (first | (at_builtin; refine wpList_pushFlat fInt wr rfl _ _ 22 rfl w.heap.size 3 i0 (.int .i64 0) 8 Tryz.underlying22 hi hz0 hz1 hz2 rfl (by decide) rfl HL.out mC rfl (by simp) (y := q) (by simp [fInt]) (In64.small (by omega)) HLen (by decide) (Lib.hid hm.size) ?_))
      intro v' w9 hl2 hmw
      go_wp2_with fail
      go_roundw
      case rel => exact ⟨k + 1, _, r, hk1, by go_num, (by first | rfl | rw [e2]), hr, hmw _ rfl mC, Lib.hid hl2, HI2⟩
      case measure => simp [intOf]; omega
    go_wp2_with fail
    go_ret
    exact ⟨_, rfl, hm, by rw [← HI.out.done (by rw [← HN.out]; exact ha) (by rw [← HN'.out]; exact hb) (by omega)]; exact HL.out.at⟩
set_option maxRecDepth 4000 in
set_option maxHeartbeats 6400000 in
theorem impl_natSub (v v' : Value) (a b : Nat) (w : World) (hv : tInts.at w [v] (limbs a)) (hv' : tInts.at w [v'] (limbs b)) (hl : (limbs a).length ≤ 4096) (_hm : (limbs b).length ≤ 4096) (hba : b ≤ a) :
    Calls Tryz.prog 143 #[v, v'] w fun e w' => ∃ u, e = .returned u ∧ More w w' ∧ tInts.at w' [u] (limbs (a - b)) := by
  obtain ⟨ao, cap, rfl⟩ := sl_len hv
  obtain ⟨ao', cap', rfl⟩ := sl_len hv'
  have HV := Lib.hid hv; clear hv
  have HV' := Lib.hid hv'; clear hv'
  obtain ⟨n, hn⟩ : ∃ n, n = (limbs a).length := ⟨_, rfl⟩
  obtain ⟨n', hn'⟩ : ∃ n', n' = (limbs b).length := ⟨_, rfl⟩
  rw [← hn] at HV hl ⊢
  rw [← hn'] at HV' _hm ⊢
  have HN := Lib.hid hn; have HN' := Lib.hid hn'; clear hn hn'
  obtain ⟨i0, hi, hz0, hz1, hz2⟩ := info_parts infoInt_
  go_enter Tryz.func143, Tryz.ntmps143
  go_wp2_with (at_make; refine wpList_make_own _ rfl _ _ 22 rfl w.heap.size 3 i0 (.int .i64 0) 1 Tryz.underlying22 hi hz0 hz1 _ _ _ (n) rfl rfl ?c0 ?c1 ?c2 ?c3 ?_)
  case c0 => rfl
  case c1 => rw [hz2]; omega
  case c2 => unfold maxLen; omega
  case c3 => exact Nat.le_refl _
  intro w1 hown hgr
  have hb1 : More w w1 := Turns.more ((Turns.refl _ _).grown hgr (by simp))
  have HO : Hid (FlatOwn fInt w.heap.size 3 w1 (.slice (some ⟨w.heap.size, 0, none⟩) 0 n) []) := Lib.hid (FlatOwn.made hown)
  clear hown hgr
  go_wp2_with fail
  go_loopw [5, 6, 14] (fun v c i wr => ∃ (k : Nat) (xs : List Int) (c0 : Int), k ≤ n ∧ i = .int .i64 k ∧ c = .int .i64 c0 ∧ (c0 = 0 ∨ c0 = 1) ∧ More w wr ∧ Hid (FlatOwn fInt w.heap.size 3 wr v xs) ∧ Hid (SubInv a b k xs c0)) (fun _ _ i _ => n - (intOf i).toNat)
  case atStart => exact ⟨0, [], 0, Nat.zero_le _, rfl, rfl, .inl rfl, hb1, HO, Lib.hid (SubInv.start a b)⟩
  case round =>
    clear HO hb1
    obtain ⟨k, xs, c0, hk, rfl, rfl, hc0, hm, HL, HI⟩ := hrel
    by_cases ha : k < n
    · have ha1 : (k : Int) < (n : Int) := by omega
      have hgx := limbs_get a k; have hgy := limbs_get b k
      obtain ⟨x, ex⟩ : ∃ x, (limbs a).getD k 0 = x := ⟨_, rfl⟩
      obtain ⟨y, ey⟩ : ∃ y, (limbs b).getD k 0 = y := ⟨_, rfl⟩
      rw [ex] at hgx; rw [ey] at hgy
      have GX := Lib.hid ex; have GY := Lib.hid ey; clear ex ey
      have HLen : Hid (xs.length ≤ 2097152) := Lib.hid (by rw [HI.out.len]; omega)
      obtain ⟨px, offx, x', rfl, hbltx, hxx, -, ccx⟩ := int_el (Ty.at_more HV.out hm) (k := k) (by rw [← HN.out]; exact ha)
      obtain rfl : x = x' := by have h := GX.out; rw [List.getD_eq_getElem?_getD, hxx] at h; exact h.symm
      clear hxx
      have C0 : ∀ w', More wr w' → w'.cell? ⟨px, offx + k, none⟩ = some (.int .i64 x) := fun w' h => box_keep h hbltx ccx
      have hw1 : IntKind.i64.wrap (x - y) = x - y := IntWalk.i64_in _ (by omega)
      obtain ⟨z, ez⟩ : ∃ z, z = x - y - c0 := ⟨_, rfl⟩
      have hw2 : IntKind.i64.wrap (x - y - c0) = z := by rw [ez]; exact IntWalk.i64_in _ (by omega)
      have hzr : -1000000000 ≤ z ∧ z < 1000000000 := by omega
      have EZ := Lib.hid ez; clear ez
      by_cases hneg : z < 0
      · have HI2 : Hid (SubInv a b (k + 1) (xs ++ [z + 1000000000]) 1) := Lib.hid (HI.out.step (n := z) (d := z + 1000000000) (by omega) (.inr rfl) (by rw [GX.out, GY.out]; exact EZ.out) (by omega))
        go_wp2_with fail
        go_region_held3 (fun w' => More wr w') (first | exact More.refl _ | exact mC) (first | (go_at_call 146; (with_reducible refine (impl_limb_ (.slice ao' n' cap') (limbs b) k y _ (Ty.at_more HV'.out mC) GY.out).mono ?_); rintro e w4 ⟨rfl, hb4⟩))
        clear C0
        go_wp2_with (first | (at_builtin; refine wpList_pushFlat fInt wr rfl _ _ 22 rfl w.heap.size 3 i0 (.int .i64 0) 8 Tryz.underlying22 hi hz0 hz1 hz2 rfl (by decide) rfl HL.out mC rfl (by simp) (y := z + 1000000000) (by simp [fInt]) (In64.small (by omega)) HLen (by decide) (Lib.hid hm.size) ?_))
        intro v' w9 hl2 hmw
        go_wp2_with fail
        go_roundw
        case rel => exact ⟨k + 1, _, 1, by omega, by go_num, rfl, .inr rfl, hmw _ rfl mC, Lib.hid hl2, HI2⟩
        case measure => simp [intOf]; omega
      · have HI2 : Hid (SubInv a b (k + 1) (xs ++ [z]) 0) := Lib.hid (HI.out.step (n := z) (d := z) (by omega) (.inl rfl) (by rw [GX.out, GY.out]; exact EZ.out) (by omega))
        go_wp2_with fail
        go_region_held3 (fun w' => More wr w') (first | exact More.refl _ | exact mC) (first | (go_at_call 146; (with_reducible refine (impl_limb_ (.slice ao' n' cap') (limbs b) k y _ (Ty.at_more HV'.out mC) GY.out).mono ?_); rintro e w4 ⟨rfl, hb4⟩))
        clear C0
        go_wp2_with (first | (at_builtin; refine wpList_pushFlat fInt wr rfl _ _ 22 rfl w.heap.size 3 i0 (.int .i64 0) 8 Tryz.underlying22 hi hz0 hz1 hz2 rfl (by decide) rfl HL.out mC rfl (by simp) (y := z ) (by simp [fInt]) (In64.small (by omega)) HLen (by decide) (Lib.hid hm.size) ?_))
        intro v' w9 hl2 hmw
        go_wp2_with fail
        go_roundw
        case rel => exact ⟨k + 1, _, 0, by omega, by go_num, rfl, .inl rfl, hmw _ rfl mC, Lib.hid hl2, HI2⟩
        case measure => simp [intOf]; omega
    · obtain rfl : k = n := by omega
      have HIe := HI
      have HD : Hid (IsL xs ∧ val xs = ((a - b : Nat) : Int)) := Lib.hid (by have h := HI.out; rw [HN.out] at h; exact h.done hba)
      go_wp2_with (first | (go_at_call 88; refine (impl_trimmed _ xs (a - b) _ (Ty.at_more HL.out.at mC) (by rw [(SubInv.len HIe.out)]; omega) HD.out.1 HD.out.2).mono ?_; rintro e w9 ⟨u, rfl, hb9, g9⟩))
      go_ret
      exact ⟨_, rfl, mC, g9⟩
set_option maxRecDepth 4000 in
set_option maxHeartbeats 6400000 in
theorem spec_l02Sub (v v' : Value) (a b : Nat) (w : World) (hv : tInts.at w [v] (limbs a)) (hv' : tInts.at w [v'] (limbs b)) (hl : (limbs a).length ≤ 4096) (_hm : (limbs b).length ≤ 4096) (hba : b ≤ a) :
    Calls Tryz.prog 160 #[v, v'] w fun e w' => ∃ u, e = .returned u ∧ More w w' ∧ tInts.at w' [u] (limbs (a - b)) := by
  obtain ⟨ao, cap, rfl⟩ := sl_len hv
  obtain ⟨ao', cap', rfl⟩ := sl_len hv'
  have HV := Lib.hid hv; clear hv
  have HV' := Lib.hid hv'; clear hv'
  obtain ⟨n, hn⟩ : ∃ n, n = (limbs a).length := ⟨_, rfl⟩
  obtain ⟨n', hn'⟩ : ∃ n', n' = (limbs b).length := ⟨_, rfl⟩
  rw [← hn] at HV hl ⊢
  rw [← hn'] at HV' _hm ⊢
  have HN := Lib.hid hn; have HN' := Lib.hid hn'; clear hn hn'
  obtain ⟨i0, hi, hz0, hz1, hz2⟩ := info_parts infoInt_
  go_enter Tryz.func160, Tryz.ntmps160
  go_wp2_with fail
  go_loopw [5, 6, 12] (fun v c i wr => ∃ (k : Nat) (xs : List Int) (c0 : Int), k ≤ n ∧ i = .int .i64 k ∧ c = .int .i64 c0 ∧ (c0 = 0 ∨ c0 = 1) ∧ More w wr ∧ Hid (FlatOwn fInt w.heap.size 3 wr v xs) ∧ Hid (SubInv a b k xs c0)) (fun _ _ i _ => n - (intOf i).toNat)
  case atStart => exact ⟨0, [], 0, Nat.zero_le _, rfl, rfl, .inl rfl, mC, Lib.hid (FlatOwn.lit (Nat.le_refl _)), Lib.hid (SubInv.start a b)⟩
  case round =>
    skip
    obtain ⟨k, xs, c0, hk, rfl, rfl, hc0, hm, HL, HI⟩ := hrel
    by_cases ha : k < n
    · have ha1 : (k : Int) < (n : Int) := by omega
      have hgx := limbs_get a k; have hgy := limbs_get b k
      obtain ⟨x, ex⟩ : ∃ x, (limbs a).getD k 0 = x := ⟨_, rfl⟩
      obtain ⟨y, ey⟩ : ∃ y, (limbs b).getD k 0 = y := ⟨_, rfl⟩
      rw [ex] at hgx; rw [ey] at hgy
      have GX := Lib.hid ex; have GY := Lib.hid ey; clear ex ey
      have HLen : Hid (xs.length ≤ 2097152) := Lib.hid (by rw [HI.out.len]; omega)
      obtain ⟨px, offx, x', rfl, hbltx, hxx, -, ccx⟩ := int_el (Ty.at_more HV.out hm) (k := k) (by rw [← HN.out]; exact ha)
      obtain rfl : x = x' := by have h := GX.out; rw [List.getD_eq_getElem?_getD, hxx] at h; exact h.symm
      clear hxx
      by_cases hb : k < n'
      · have hb1 : (k : Int) < (n' : Int) := by omega
        obtain ⟨py, offy, y', rfl, hblty, hxy, -, ccy⟩ := int_el (Ty.at_more HV'.out hm) (k := k) (by rw [← HN'.out]; exact hb)
        obtain rfl : y = y' := by have h := GY.out; rw [List.getD_eq_getElem?_getD, hxy] at h; exact h.symm
        clear hxy
        by_cases hneg : x - c0 - y < 0
        · have HI2 : Hid (SubInv a b (k + 1) (xs ++ [x - c0 - y + 1000000000]) 1) := Lib.hid (HI.out.step (n := x - c0 - y) (d := x - c0 - y + 1000000000) (by omega) (.inr rfl) (by rw [GX.out, GY.out]; try omega) (by omega))
          go_wp2_with (first | (at_builtin; refine wpList_pushFlat fInt wr rfl _ _ 22 rfl w.heap.size 3 i0 (.int .i64 0) 8 Tryz.underlying22 hi hz0 hz1 hz2 rfl (by decide) rfl HL.out mC rfl (by simp) (y := x - c0 - y + 1000000000) (by simp [fInt]) (In64.small (by omega)) HLen (by decide) (Lib.hid hm.size) ?_))
          intro v' w9 hl2 hmw
          go_wp2_with fail
          go_roundw
          case rel => exact ⟨k + 1, _, 1, by omega, by go_num, rfl, .inr rfl, hmw _ rfl mC, Lib.hid hl2, HI2⟩
          case measure => simp [intOf]; omega
        · have HI2 : Hid (SubInv a b (k + 1) (xs ++ [x - c0 - y]) 0) := Lib.hid (HI.out.step (n := x - c0 - y) (d := x - c0 - y) (by omega) (.inl rfl) (by rw [GX.out, GY.out]; try omega) (by omega))
          go_wp2_with (first | (at_builtin; refine wpList_pushFlat fInt wr rfl _ _ 22 rfl w.heap.size 3 i0 (.int .i64 0) 8 Tryz.underlying22 hi hz0 hz1 hz2 rfl (by decide) rfl HL.out mC rfl (by simp) (y := x - c0 - y ) (by simp [fInt]) (In64.small (by omega)) HLen (by decide) (Lib.hid hm.size) ?_))
          intro v' w9 hl2 hmw
          go_wp2_with fail
          go_roundw
          case rel => exact ⟨k + 1, _, 0, by omega, by go_num, rfl, .inl rfl, hmw _ rfl mC, Lib.hid hl2, HI2⟩
          case measure => simp [intOf]; omega
      · have hb1 : ¬ (k : Int) < (n' : Int) := by omega
        obtain rfl : y = 0 := by have h := GY.out; rw [List.getD_eq_getElem?_getD, List.getElem?_eq_none (by rw [← HN'.out]; omega)] at h; exact h.symm
        by_cases hneg : x - c0 < 0
        · have HI2 : Hid (SubInv a b (k + 1) (xs ++ [x - c0 + 1000000000]) 1) := Lib.hid (HI.out.step (n := x - c0) (d := x - c0 + 1000000000) (by omega) (.inr rfl) (by rw [GX.out, GY.out]; try omega) (by omega))
          go_wp2_with (first | (at_builtin; refine wpList_pushFlat fInt wr rfl _ _ 22 rfl w.heap.size 3 i0 (.int .i64 0) 8 Tryz.underlying22 hi hz0 hz1 hz2 rfl (by decide) rfl HL.out mC rfl (by simp) (y := x - c0 + 1000000000) (by simp [fInt]) (In64.small (by omega)) HLen (by decide) (Lib.hid hm.size) ?_))
          intro v' w9 hl2 hmw
          go_wp2_with fail
          go_roundw
          case rel => exact ⟨k + 1, _, 1, by omega, by go_num, rfl, .inr rfl, hmw _ rfl mC, Lib.hid hl2, HI2⟩
          case measure => simp [intOf]; omega
        · have HI2 : Hid (SubInv a b (k + 1) (xs ++ [x - c0]) 0) := Lib.hid (HI.out.step (n := x - c0) (d := x - c0) (by omega) (.inl rfl) (by rw [GX.out, GY.out]; try omega) (by omega))
          go_wp2_with (first | (at_builtin; refine wpList_pushFlat fInt wr rfl _ _ 22 rfl w.heap.size 3 i0 (.int .i64 0) 8 Tryz.underlying22 hi hz0 hz1 hz2 rfl (by decide) rfl HL.out mC rfl (by simp) (y := x - c0 ) (by simp [fInt]) (In64.small (by omega)) HLen (by decide) (Lib.hid hm.size) ?_))
          intro v' w9 hl2 hmw
          go_wp2_with fail
          go_roundw
          case rel => exact ⟨k + 1, _, 0, by omega, by go_num, rfl, .inl rfl, hmw _ rfl mC, Lib.hid hl2, HI2⟩
          case measure => simp [intOf]; omega
    · obtain rfl : k = n := by omega
      have HIe := HI
      have HD : Hid (IsL xs ∧ val xs = ((a - b : Nat) : Int)) := Lib.hid (by have h := HI.out; rw [HN.out] at h; exact h.done hba)
      go_wp2_with (first | (go_at_call 79; refine (spec_l02Trim _ xs (a - b) _ (Ty.at_more HL.out.at mC) (by rw [(SubInv.len HIe.out)]; omega) HD.out.1 HD.out.2).mono ?_; rintro e w9 ⟨u, rfl, hb9, g9⟩))
      go_ret
      exact ⟨_, rfl, mC, g9⟩
end Go.Proofs.YtnbefpfijaimjaaGreatDoor
