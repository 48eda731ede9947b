/- Natural numbers as limbs: quotients by one limb; the reference's digit. -/
import Derived.Test.YtnbefpfijaimjaaGreatDoorRows
import Derived.Test.YtnbefpfijaimjaaGreatDoorNatC
import Derived.Test.YtnbefpfijaimjaaGreatDoorApp
import Derived.Deep.RegionHeld3
import Derived.Deep.QuietTactic
import Derived.BigQuiet
import Derived.IntWalk
namespace Go.Proofs.YtnbefpfijaimjaaGreatDoor
open Go.RowKit
set_option maxRecDepth 4000 in
set_option maxHeartbeats 12800000 in
theorem impl_natDivSmall (v : Value) (a b : Nat) (w : World) (hv : tInts.at w [v] (limbs a)) (hl : (limbs a).length ≤ 4096) (hb0 : 0 < b) (hbB : b < 1000000000) :
    Calls Tryz.prog 125 #[v, .int .i64 (b : Int)] w fun e w' => ∃ u, e = .returned (.tuple #[u, .int .i64 ((a % b : Nat) : Int)]) ∧ More w w' ∧ tInts.at w' [u] (limbs (a / b)) := by
  obtain ⟨ao, cap, rfl⟩ := sl_len hv
  have HV := Lib.hid hv; clear hv
  obtain ⟨NN, hn⟩ : ∃ n, n = (limbs a).length := ⟨_, rfl⟩
  rw [← hn] at HV hl ⊢
  have HN := Lib.hid hn; clear hn
  obtain ⟨i0, hi, hz0, hz1, hz2⟩ := info_parts infoInt_
  go_enter Tryz.func125, Tryz.ntmps125
  go_wp2_with (at_make; refine wpList_make_full _ rfl _ _ 22 rfl w.heap.size 3 i0 (.int .i64 0) 1 Tryz.underlying22 hi hz0 hz1 _ _ _ _ NN rfl rfl ?_ ?_ ?_ ?_ ?_ ?_)
  all_goals first | rfl | omega | (rw [hz2]; omega) | (unfold maxLen; omega) | exact Nat.le_refl _ | skip
  intro w1 hown hgr
  have hb1 : More w w1 := Turns.more ((Turns.refl _ _).grown hgr (by simp))
  have HO : Hid (RowI w.heap.size 3 w1 w.heap.size NN (List.replicate NN 0)) := Lib.hid (RowI.made (by rw [Nat.mul_one]; exact hown))
  clear hown hgr
  go_wp2_with fail
  go_loopw [7, 8] (fun r i wr => ∃ (k : Nat) (xs : List Int) (r0 : Nat), k ≤ NN ∧ i = .int .i64 ((k : Int) - 1) ∧ r = .int .i64 (r0 : Int) ∧ r0 < b ∧ More w wr ∧ Hid (RowI w.heap.size 3 wr w.heap.size NN xs) ∧ Hid (DivInv a b k xs r0)) (fun _ i _ => (intOf i + 1).toNat)
  case atStart => exact ⟨NN, _, 0, Nat.le_refl _, by go_num, rfl, hb0, hb1, HO, Lib.hid (by rw [HN.out]; exact DivInv.start a b (by omega))⟩
  case round =>
    clear HO hb1
    obtain ⟨k, xs, r0, hk, rfl, rfl, hr0, hm, HR, HI⟩ := hrel
    by_cases h0 : 0 < k
    · obtain ⟨p, hp⟩ : ∃ p, k = p + 1 := ⟨k - 1, by omega⟩
      subst hp
      have hpN : p < NN := by omega
      have hpi : (p : Int) < (NN : Int) := by omega
      have hp0 : (0 : Int) ≤ (p : Int) := by omega
      have hkp : ((p + 1 : Nat) : Int) - 1 = (p : Int) := by omega
      rw [hkp]
      have hwk : IntKind.i64.wrap ((p : Int) - 1) = (p : Int) - 1 := IntWalk.i64_in _ (by omega)
      obtain ⟨px, offx, x, rfl, hbltx, hxx, -, ccx⟩ := int_el (Ty.at_more HV.out hm) (k := p) (by rw [← HN.out]; exact hpN)
      have GX : Hid ((limbs a).getD p 0 = x) := Lib.hid (by rw [List.getD_eq_getElem?_getD, hxx]; rfl)
      have hgx := limbs_get a p
      rw [GX.out] at hgx
      clear hxx
      obtain ⟨q0, f0, -, hg0⟩ := HR.out.get (k := p) hpN
      obtain ⟨m, hm'⟩ : ∃ m : Nat, (m : Int) = (r0 : Int) * 1000000000 + x := ⟨(r0 * 1000000000 + x.toNat), by omega⟩
      have HI2 : Hid (DivInv a b p (xs.set p ((m / b : Nat) : Int)) (m % b)) := Lib.hid (HI.out.step (by rw [GX.out]; exact hm'))
      have hmr : (m : Int) < 1000000000000000000 := by omega
      have hw1 : IntKind.i64.wrap ((r0 : Int) * 1000000000) = (r0 : Int) * 1000000000 := IntWalk.i64_in _ (by omega)
      have hw2 : IntKind.i64.wrap ((r0 : Int) * 1000000000 + x) = (m : Int) := by rw [← hm']; exact IntWalk.i64_in _ (by omega)
      have hbz : ((b : Int) == 0) = false := by simp; omega
      have hbz2 : ¬ b = 0 := by omega
      have hq : (m : Int).tdiv (b : Int) = ((m / b : Nat) : Int) := by rw [Int.tdiv_eq_ediv_of_nonneg (by omega)]; rfl
      have hr : (m : Int).tmod (b : Int) = ((m % b : Nat) : Int) := by rw [Int.tmod_eq_emod_of_nonneg (by omega)]; rfl
      have hmb : m / b ≤ m := Nat.div_le_self m b
      have hmm : m % b < b := Nat.mod_lt _ hb0
      have hsm : Hid (In64 ((m / b : Nat) : Int)) := Lib.hid (In64.small (by generalize m / b = qq at *; omega))
      obtain ⟨qq, hqq⟩ : ∃ qq, m / b = qq := ⟨_, rfl⟩
      obtain ⟨rr, hrr⟩ : ∃ rr, m % b = rr := ⟨_, rfl⟩
      rw [hqq] at hq HI2 hsm hmb
      rw [hrr] at hr HI2 hmm
      have hwq : IntKind.i64.wrap (qq : Int) = (qq : Int) := IntWalk.i64_in _ (by omega)
      clear hqq hrr hm'
      go_wp2_with fail
      go_roundw
      case rel => exact ⟨p, _, rr, by omega, (by first | rfl | go_num), rfl, hmm, mC2, Lib.hid (HR.out.set hpN hsm.out), HI2⟩
      case measure => simp [intOf]; try omega
    · have hk0 : k = 0 := by omega
      subst hk0
      have HD := Lib.hid HI.out.done
      go_wp2_with (go_at_call 88; refine (impl_trimmed _ xs (a / b) _ (Ty.at_more HR.out.at mC) (by rw [HI.out.len, ← HN.out]; omega) HD.out.1 HD.out.2.1).mono ?_; rintro e w9 ⟨u, rfl, hb9, g9⟩)
      go_ret2
      exact ⟨u, congrArg (fun z : Nat => Ending.returned (Value.tuple #[u, Value.int .i64 (z : Int)])) HD.out.2.2, mC, g9⟩
set_option maxRecDepth 4000 in
set_option maxHeartbeats 12800000 in
theorem spec_l02Small (v : Value) (a b : Nat) (w : World) (hv : tInts.at w [v] (limbs a)) (hl : (limbs a).length ≤ 4096) (hb0 : 0 < b) (hbB : b < 1000000000) :
    Calls Tryz.prog 176 #[v, .int .i64 (b : Int)] w fun e w' => ∃ u, e = .returned (.tuple #[u, .int .i64 ((a % b : Nat) : Int)]) ∧ More w w' ∧ tInts.at w' [u] (limbs (a / b)) := by
  obtain ⟨ao, cap, rfl⟩ := sl_len hv
  have HV := Lib.hid hv; clear hv
  obtain ⟨NN, hn⟩ : ∃ n, n = (limbs a).length := ⟨_, rfl⟩
  rw [← hn] at HV hl ⊢
  have HN := Lib.hid hn; clear hn
  obtain ⟨i0, hi, hz0, hz1, hz2⟩ := info_parts infoInt_
  go_enter Tryz.func176, Tryz.ntmps176
  go_wp2_with (at_make; refine wpList_make_full _ rfl _ _ 22 rfl w.heap.size 3 i0 (.int .i64 0) 1 Tryz.underlying22 hi hz0 hz1 _ _ _ _ NN rfl rfl ?_ ?_ ?_ ?_ ?_ ?_)
  all_goals first | rfl | omega | (rw [hz2]; omega) | (unfold maxLen; omega) | exact Nat.le_refl _ | skip
  intro w1 hown hgr
  have hb1 : More w w1 := Turns.more ((Turns.refl _ _).grown hgr (by simp))
  have HO : Hid (RowI w.heap.size 3 w1 w.heap.size NN (List.replicate NN 0)) := Lib.hid (RowI.made (by rw [Nat.mul_one]; exact hown))
  clear hown hgr
  go_wp2_with fail
  go_loopw [7, 8] (fun r i wr => ∃ (k : Nat) (xs : List Int) (r0 : Nat), k ≤ NN ∧ i = .int .i64 ((k : Int) - 1) ∧ r = .int .i64 (r0 : Int) ∧ r0 < b ∧ More w wr ∧ Hid (RowI w.heap.size 3 wr w.heap.size NN xs) ∧ Hid (DivInv a b k xs r0)) (fun _ i _ => (intOf i + 1).toNat)
  case atStart => exact ⟨NN, _, 0, Nat.le_refl _, by go_num, rfl, hb0, hb1, HO, Lib.hid (by rw [HN.out]; exact DivInv.start a b (by omega))⟩
  case round =>
    clear HO hb1
    obtain ⟨k, xs, r0, hk, rfl, rfl, hr0, hm, HR, HI⟩ := hrel
    by_cases h0 : 0 < k
    · obtain ⟨p, hp⟩ : ∃ p, k = p + 1 := ⟨k - 1, by omega⟩
      subst hp
      have hpN : p < NN := by omega
      have hpi : (p : Int) < (NN : Int) := by omega
      have hp0 : (0 : Int) ≤ (p : Int) := by omega
      have hkp : ((p + 1 : Nat) : Int) - 1 = (p : Int) := by omega
      rw [hkp]
      have hwk : IntKind.i64.wrap ((p : Int) - 1) = (p : Int) - 1 := IntWalk.i64_in _ (by omega)
      obtain ⟨px, offx, x, rfl, hbltx, hxx, -, ccx⟩ := int_el (Ty.at_more HV.out hm) (k := p) (by rw [← HN.out]; exact hpN)
      have GX : Hid ((limbs a).getD p 0 = x) := Lib.hid (by rw [List.getD_eq_getElem?_getD, hxx]; rfl)
      have hgx := limbs_get a p
      rw [GX.out] at hgx
      clear hxx
      obtain ⟨q0, f0, -, hg0⟩ := HR.out.get (k := p) hpN
      obtain ⟨m, hm'⟩ : ∃ m : Nat, (m : Int) = (r0 : Int) * 1000000000 + x := ⟨(r0 * 1000000000 + x.toNat), by omega⟩
      have HI2 : Hid (DivInv a b p (xs.set p ((m / b : Nat) : Int)) (m % b)) := Lib.hid (HI.out.step (by rw [GX.out]; exact hm'))
      have hmr : (m : Int) < 1000000000000000000 := by omega
      have hw1 : IntKind.i64.wrap ((r0 : Int) * 1000000000) = (r0 : Int) * 1000000000 := IntWalk.i64_in _ (by omega)
      have hw2 : IntKind.i64.wrap ((r0 : Int) * 1000000000 + x) = (m : Int) := by rw [← hm']; exact IntWalk.i64_in _ (by omega)
      have hbz : ((b : Int) == 0) = false := by simp; omega
      have hbz2 : ¬ b = 0 := by omega
      have hq : (m : Int).tdiv (b : Int) = ((m / b : Nat) : Int) := by rw [Int.tdiv_eq_ediv_of_nonneg (by omega)]; rfl
      have hr : (m : Int).tmod (b : Int) = ((m % b : Nat) : Int) := by rw [Int.tmod_eq_emod_of_nonneg (by omega)]; rfl
      have hmb : m / b ≤ m := Nat.div_le_self m b
      have hmm : m % b < b := Nat.mod_lt _ hb0
      have hsm : Hid (In64 ((m / b : Nat) : Int)) := Lib.hid (In64.small (by generalize m / b = qq at *; omega))
      obtain ⟨qq, hqq⟩ : ∃ qq, m / b = qq := ⟨_, rfl⟩
      obtain ⟨rr, hrr⟩ : ∃ rr, m % b = rr := ⟨_, rfl⟩
      rw [hqq] at hq HI2 hsm hmb
      rw [hrr] at hr HI2 hmm
      have hwq : IntKind.i64.wrap (qq : Int) = (qq : Int) := IntWalk.i64_in _ (by omega)
      clear hqq hrr hm'
      go_wp2_with fail
      go_roundw
      case rel => exact ⟨p, _, rr, by omega, (by first | rfl | go_num), rfl, hmm, mC2, Lib.hid (HR.out.set hpN hsm.out), HI2⟩
      case measure => simp [intOf]; try omega
    · have hk0 : k = 0 := by omega
      subst hk0
      have HD := Lib.hid HI.out.done
      go_wp2_with (go_at_call 79; refine (spec_l02Trim _ xs (a / b) _ (Ty.at_more HR.out.at mC) (by rw [HI.out.len, ← HN.out]; omega) HD.out.1 HD.out.2.1).mono ?_; rintro e w9 ⟨u, rfl, hb9, g9⟩)
      go_ret2
      exact ⟨u, congrArg (fun z : Nat => Ending.returned (Value.tuple #[u, Value.int .i64 (z : Int)])) HD.out.2.2, mC, g9⟩
set_option maxRecDepth 4000 in
set_option maxHeartbeats 12800000 in
theorem spec_l02Digit (v v' : Value) (a b : Nat) (w : World) (hv : tInts.at w [v] (limbs a)) (hv' : tInts.at w [v'] (limbs b)) (hl : (limbs a).length ≤ 4096) (hm : (limbs b).length ≤ 4096) (hb0 : 0 < b) (hab : a < b * 1000000000) :
    Calls Tryz.prog 177 #[v, v'] w fun e w' => e = .returned (.int .i64 ((a / b : Nat) : Int)) ∧ More w w' := by
  have HV := Lib.hid hv; have HV' := Lib.hid hv'; have HL := Lib.hid hl; have HM := Lib.hid hm; have HAB := Lib.hid hab; clear hv hv' hl hm hab
  go_enter Tryz.func177, Tryz.ntmps177
  go_wp2_with fail
  go_loopw [5, 6] (fun lo hi wr => ∃ l h : Int, lo = .int .i64 l ∧ hi = .int .i64 h ∧ (0 ≤ l ∧ h < 1000000000) ∧ More w wr ∧ Hid (DigInv a b l h)) (fun lo hi _ => (intOf hi - intOf lo).toNat)
  case atStart => exact ⟨0, 999999999, rfl, rfl, by omega, mC, Lib.hid (DigInv.start hb0 HAB.out)⟩
  case round =>
    obtain ⟨l, h, rfl, rfl, hlh, hm, HI⟩ := hrel
    by_cases hlt : l < h
    · obtain ⟨m, hm'⟩ : ∃ m : Nat, (m : Int) = (l + h + 1) / 2 := ⟨((l + h + 1) / 2).toNat, by omega⟩
      have hml : l < (m : Int) := by omega
      have hmh : (m : Int) ≤ h := by omega
      have hw1 : IntKind.i64.wrap (l + h) = l + h := IntWalk.i64_in _ (by omega)
      have hw2 : IntKind.i64.wrap (l + h + 1) = l + h + 1 := IntWalk.i64_in _ (by omega)
      have hmt : (l + h + 1).tdiv 2 = (m : Int) := by rw [Int.tdiv_eq_ediv_of_nonneg (by omega)]; exact hm'.symm
      have hme : (l + h + 1) / 2 = (m : Int) := hm'.symm
      clear hm'
      have hM : m < 1000000000 := by omega
      have HLm : Hid ((limbs m).length ≤ 4096) := Lib.hid (Nat.le_trans (limbs_len_le (k := 1).2 (by show (m : Int) < bp 1; rw [bp_succ]; show (m : Int) < 1000000000 * 1; omega)) (by decide))
      have HLbm : Hid ((limbs (b * m)).length ≤ 1048576) := Lib.hid (by have h1 := limbs_len_mul b m; have h2 := HM.out; have h3 := HLm.out; omega)
      have HLa : Hid ((limbs a).length ≤ 1048576) := Lib.hid (by have := HL.out; omega)
      by_cases hle : b * m ≤ a
      · have hc0 : cmpI ((b * m : Nat) : Int) (a : Int) ≤ 0 := by unfold cmpI; split <;> (try split) <;> omega
        obtain ⟨c, ec⟩ : ∃ c, cmpI ((b * m : Nat) : Int) (a : Int) = c := ⟨_, rfl⟩
        have EC := Lib.hid ec
        rw [ec] at hc0; clear ec
        go_wp2_with (first | (go_at_call 130; refine (spec_NatOf m _ (by omega)).mono ?_; rintro e w1 ⟨u1, rfl, hb1, g1⟩; have G1 := Lib.hid g1; clear g1) | (go_at_call 129; refine (spec_l02Mul _ _ b m _ (Ty.at_more HV'.out mC) (Ty.at_more G1.out mC) HM.out HLm.out).mono ?_; rintro e w2 ⟨u2, rfl, hb2, g2⟩; have G2 := Lib.hid g2; clear g2) | (go_at_call 159; refine (spec_l02Cmp _ _ (b * m) a _ (Ty.at_more G2.out mC) (Ty.at_more HV.out mC) HLbm.out HLa.out).mono ?_; rintro e w3 ⟨rfl, hb3⟩; rw [EC.out]))
        go_roundw
        case rel => exact ⟨(m : Int), h, rfl, rfl, by omega, mC, Lib.hid (HI.out.take hb0 (by omega) (by simpa using hle))⟩
        case measure => simp [intOf]; omega
      · have hc0 : ¬ cmpI ((b * m : Nat) : Int) (a : Int) ≤ 0 := by unfold cmpI; split <;> (try split) <;> omega
        obtain ⟨c, ec⟩ : ∃ c, cmpI ((b * m : Nat) : Int) (a : Int) = c := ⟨_, rfl⟩
        have EC := Lib.hid ec
        rw [ec] at hc0; clear ec
        have hw3 : IntKind.i64.wrap ((m : Int) - 1) = (m : Int) - 1 := IntWalk.i64_in _ (by omega)
        go_wp2_with (first | (go_at_call 130; refine (spec_NatOf m _ (by omega)).mono ?_; rintro e w1 ⟨u1, rfl, hb1, g1⟩; have G1 := Lib.hid g1; clear g1) | (go_at_call 129; refine (spec_l02Mul _ _ b m _ (Ty.at_more HV'.out mC) (Ty.at_more G1.out mC) HM.out HLm.out).mono ?_; rintro e w2 ⟨u2, rfl, hb2, g2⟩; have G2 := Lib.hid g2; clear g2) | (go_at_call 159; refine (spec_l02Cmp _ _ (b * m) a _ (Ty.at_more G2.out mC) (Ty.at_more HV.out mC) HLbm.out HLa.out).mono ?_; rintro e w3 ⟨rfl, hb3⟩; rw [EC.out]))
        go_roundw
        case rel => exact ⟨l, (m : Int) - 1, rfl, by go_num, by omega, mC, Lib.hid (HI.out.drop hb0 (by omega) hmh (by simpa using Nat.lt_of_not_le hle))⟩
        case measure => simp [intOf]; omega
    · go_wp2_with fail
      go_ret
      exact ⟨ret_int (HI.out.done (by omega)), hm⟩
end Go.Proofs.YtnbefpfijaimjaaGreatDoor
