/- Natural numbers as limbs: the reference's greatest common divisor. -/
import Derived.Test.YtnbefpfijaimjaaGreatDoorNatG
import Derived.Test.YtnbefpfijaimjaaGreatDoorClo
namespace Go.Proofs.YtnbefpfijaimjaaGreatDoor
open Go.RowKit
theorem drop_step (l : List Int) (p : Nat) (hp : p < l.length) : val (l.drop p) = l.getD p 0 + 1000000000 * val (l.drop (p + 1)) := by
  rw [List.drop_eq_getElem_cons hp]
  show l[p] + 1000000000 * val _ = _
  rw [List.getD_eq_getElem?_getD, List.getElem?_eq_getElem hp]
  rfl
theorem drop_le (n p : Nat) : val ((limbs n).drop p) ≤ n ∧ 0 ≤ val ((limbs n).drop p) := by
  have h0 := val_nonneg ((limbs_isL n).drop p)
  refine ⟨?_, h0⟩
  by_cases hp : p ≤ (limbs n).length
  · have h1 := val_drop (limbs n) p hp
    have h2 := limbs_take_nonneg n p
    rw [limbs_val] at h1
    have h3 : val ((limbs n).drop p) ≤ bp p * val ((limbs n).drop p) := by
      have := Int.mul_le_mul_of_nonneg_right (show 1 ≤ bp p by have := bp_pos p; omega) h0
      omega
    omega
  · rw [List.drop_eq_nil_of_le (by omega)]
    simp [val]
theorem lit_max : limbs 9223372036854775807 = [854775807, 223372036, 9] := by
  refine (can_limbs (l := [854775807, 223372036, 9]) ?_ (by decide)).symm
  have h : IsL ([854775807, 223372036] ++ [9]) := IsL.mk (by decide) (IsL.mk (by decide) (IsL.mk (by decide) IsL.nil))
  exact (can_iff_last h).2 (by decide)
set_option maxRecDepth 4000 in
set_option maxHeartbeats 6400000 in
theorem spec_NatToInt (v : Value) (n : Nat) (w : World) (hv : tInts.at w [v] (limbs n)) (hn : n < 1000000000000000000) :
    Calls Tryz.prog 150 #[v] w fun e w' => e = .returned (.tuple #[.int .i64 (n : Int), .bool true]) ∧ More w w' := by
  obtain ⟨ao, cap, rfl⟩ := sl_len hv
  have HV := Lib.hid hv; clear hv
  have HLL : Hid ((limbs n).length ≤ 2) := Lib.hid (limbs_len_le.2 (by have h3 : bp 2 = 1000000000000000000 := (by decide); omega))
  have HOK : Hid (natOkB (limbs n) = true) := Lib.hid (natOk_limbs (by have := HLL.out; omega))
  obtain ⟨MX, HMX, hMX⟩ : ∃ M : Nat, Hid (limbs M = [854775807, 223372036, 9]) ∧ 1000000000000000000 ≤ M := ⟨9223372036854775807, Lib.hid lit_max, by decide⟩
  have HLM : Hid ((limbs MX).length ≤ 1048576) := Lib.hid (by rw [HMX.out]; decide)
  obtain ⟨NN, hN⟩ : ∃ k, k = (limbs n).length := ⟨_, rfl⟩
  rw [← hN] at HV HLL ⊢
  have HN := Lib.hid hN; clear hN
  have hc0 : ¬ 0 < cmpI (n : Int) (MX : Int) := fun h => by have := cmpI_pos.1 h; omega
  obtain ⟨c, ec⟩ : ∃ c, cmpI (n : Int) (MX : Int) = c := ⟨_, rfl⟩
  have EC := Lib.hid ec
  rw [ec] at hc0; clear ec
  have hnn := HLL.out
  have HNB := Lib.hid hn; clear hn
  go_enter Tryz.func150, Tryz.ntmps150
  go_wp2_with (first | (go_at_call 112; refine (spec_NatOk _ (limbs n) _ (Ty.at_more HV.out mC) (by rw [← HN.out]; omega)).mono ?_; rintro e w1 ⟨rfl, hb1⟩; rw [HOK.out]) | (go_at_call 159; refine (spec_l02Cmp _ _ n MX _ (Ty.at_more HV.out mC) (by rw [HMX.out]; exact Ty.fresh_at (B := 0) (Ty.fresh_mono (lit_fresh fInt rfl rfl rfl (by decide) (by intro x hx; simp at hx; rcases hx with rfl | rfl | rfl <;> exact In64.small (by decide))) (Nat.zero_le _))) (by rw [← HN.out]; omega) HLM.out).mono ?_; rintro e w2 ⟨rfl, hb2⟩; rw [EC.out]))
  go_loopw [4, 5] (fun r i wr => ∃ (k : Nat) (a : Int), k ≤ NN ∧ i = .int .i64 ((k : Int) - 1) ∧ r = .int .i64 a ∧ Hid (a = val ((limbs n).drop k)) ∧ More w wr) (fun _ i _ => (intOf i + 1).toNat)
  case atStart => exact ⟨NN, 0, Nat.le_refl _, by go_num, rfl, Lib.hid (by rw [List.drop_eq_nil_of_le (by rw [← HN.out]; exact Nat.le_refl _)]; rfl), mC⟩
  case round =>
    obtain ⟨k, a, hk, rfl, rfl, HA, hm⟩ := hrel
    by_cases h0 : 0 < k
    · obtain ⟨p, hp⟩ : ∃ p, k = p + 1 := ⟨k - 1, by omega⟩
      subst hp
      have hpN : p < NN := by omega
      have hpi : (p : Int) < (NN : Int) := by omega
      have hp0 : (0 : Int) ≤ (p : Int) := by omega
      have hkp : ((p + 1 : Nat) : Int) - 1 = (p : Int) := by omega
      rw [hkp]
      have hwk : IntKind.i64.wrap ((p : Int) - 1) = (p : Int) - 1 := IntWalk.i64_in _ (by omega)
      obtain ⟨px, offx, x, rfl, hbltx, hxx, -, ccx⟩ := int_el (Ty.at_more HV.out hm) (k := p) (by rw [← HN.out]; exact hpN)
      have GX : Hid ((limbs n).getD p 0 = x) := Lib.hid (by rw [List.getD_eq_getElem?_getD, hxx]; rfl)
      clear hxx
      have HS := Lib.hid (drop_step (limbs n) p (by rw [← HN.out]; exact hpN))
      have HD0 := drop_le n p; have HD1 := drop_le n (p + 1)
      rw [HS.out, GX.out, ← HA.out] at HD0
      rw [← HA.out] at HD1
      have hxg := limbs_get n p
      rw [GX.out] at hxg
      have hnb := HNB.out
      have hw1 : IntKind.i64.wrap (a * 1000000000) = a * 1000000000 := IntWalk.i64_in _ (by omega)
      have hw2 : IntKind.i64.wrap (a * 1000000000 + x) = a * 1000000000 + x := IntWalk.i64_in _ (by omega)
      clear HD0 HD1 hxg hnb
      go_wp2_with fail
      go_roundw
      case rel => exact ⟨p, a * 1000000000 + x, by omega, by first | rfl | go_num, rfl, Lib.hid (by rw [HS.out, GX.out, ← HA.out]; omega), mC⟩
      case measure => simp [intOf]; try omega
    · have hk0 : k = 0 := by omega
      subst hk0
      go_wp2_with fail
      go_ret2
      exact ⟨congrArg (fun z : Int => Ending.returned (Value.tuple #[Value.int .i64 z, Value.bool true])) (by rw [HA.out, List.drop_zero, limbs_val]), mC⟩
set_option maxRecDepth 4000 in
set_option maxHeartbeats 6400000 in
theorem spec_l02Gcd (v v' : Value) (a b : Nat) (w : World) (hv : tInts.at w [v] (limbs a)) (hv' : tInts.at w [v'] (limbs b)) (hl : (limbs a).length ≤ 4000) (hm : (limbs b).length ≤ 4000) :
    Calls Tryz.prog 113 #[v, v'] w fun e w' => ∃ u, e = .returned u ∧ More w w' ∧ tInts.at w' [u] (limbs (Nat.gcd a b)) := by
  have HV := Lib.hid hv; have HV' := Lib.hid hv'; have HL := Lib.hid hl; have HM := Lib.hid hm; clear hv hv' hl hm
  obtain ⟨i0, hi, hz0, hz1, hz2⟩ := info_parts infoInt_
  go_enter Tryz.func113, Tryz.ntmps113
  go_wp2_with (at_builtin; refine wpList_copyAll fInt rfl _ _ 22 rfl 3 i0 (.int .i64 0) 8 Tryz.underlying22 hi hz0 hz1 hz2 rfl (by decide) rfl rfl (Ty.at_more HV.out mC) (Lib.hid (by have := HL.out; omega)) (by decide) ?_)
  intro va wa fa ba
  have FA := Lib.hid (Ty.fresh_at fa); clear fa
  go_wp2_with (at_builtin; refine wpList_copyAll fInt rfl _ _ 22 rfl 3 i0 (.int .i64 0) 8 Tryz.underlying22 hi hz0 hz1 hz2 rfl (by decide) rfl rfl (Ty.at_more HV'.out mC) (Lib.hid (by have := HM.out; omega)) (by decide) ?_)
  intro vb wb fb bb
  have FB := Lib.hid (Ty.fresh_at fb); clear fb
  go_wp2_with fail
  go_loopw [5, 6] (fun u u' wr => ∃ x y : Nat, Hid (tInts.at wr [u] (limbs x)) ∧ Hid (tInts.at wr [u'] (limbs y)) ∧ Hid (Nat.gcd x y = Nat.gcd a b) ∧ Hid ((limbs x).length ≤ 4000) ∧ Hid ((limbs y).length ≤ 4000) ∧ More w wr) (fun _ u' wr => natIn wr u')
  case atStart => exact ⟨a, b, Lib.hid (Ty.at_more FA.out mC), Lib.hid (Ty.at_more FB.out mC), Lib.hid rfl, HL, HM, mC⟩
  case round =>
    clear HV HV' FA FB
    obtain ⟨x, y, HX, HY, HG, HLX, HLY, hm⟩ := hrel
    obtain ⟨aox, capx, rfl⟩ := sl_len HX.out
    obtain ⟨aoy, capy, rfl⟩ := sl_len HY.out
    obtain ⟨nx, hnx⟩ : ∃ n, n = (limbs x).length := ⟨_, rfl⟩
    obtain ⟨ny, hn⟩ : ∃ n, n = (limbs y).length := ⟨_, rfl⟩
    rw [← hnx] at HX ⊢
    rw [← hn] at HY ⊢
    have HNX := Lib.hid hnx; have HN := Lib.hid hn; clear hn hnx
    by_cases h1 : 0 < ny
    · have h1' : (0 : Int) < (ny : Int) := by omega
      have hy0 : 0 < y := by
        rcases Nat.eq_zero_or_pos y with h | h
        · have := HN.out; rw [h, limbs_zero] at this; simp at this; omega
        · exact h
      by_cases hsm : nx < 3 ∧ ny < 3
      · obtain ⟨s1, s2⟩ := hsm
        have s1' : (nx : Int) < 3 := by omega
        have s2' : (ny : Int) < 3 := by omega
        have hx18 : x < 1000000000000000000 := by have h3 : bp 2 = 1000000000000000000 := (by decide); have := limbs_len_le (n := x) (k := 2).1 (by rw [← HNX.out]; omega); omega
        have hy18 : y < 1000000000000000000 := by have h3 : bp 2 = 1000000000000000000 := (by decide); have := limbs_len_le (n := y) (k := 2).1 (by rw [← HN.out]; omega); omega
        have HX18 := Lib.hid hx18; have HY18 := Lib.hid hy18; clear hx18 hy18
        go_wp2_with (first | (go_at_call 150; (with_reducible refine (spec_NatToInt (.slice aox nx capx) x _ (Ty.at_more HX.out mC) HX18.out).mono ?_); rintro e w1 ⟨rfl, hb1⟩) | (go_at_call 150; (with_reducible refine (spec_NatToInt (.slice aoy ny capy) y _ (Ty.at_more HY.out mC) HY18.out).mono ?_); rintro e w2 ⟨rfl, hb2⟩) | (go_at_call 151; refine (spec_l02Plain x y _ (by have := HX18.out; omega) (by have := HY18.out; omega)).mono ?_; rintro e w3 ⟨u3, rfl, hb3, g3⟩; rw [HG.out] at g3; have G3 := Lib.hid g3; clear g3))
        go_ret
        exact ⟨_, rfl, mC, G3.out⟩
      · have HS := Lib.hid hsm; clear hsm
        have DIV : True := trivial
        by_cases s1 : nx < 3
        all_goals
          have s1' : (if nx < 3 then (nx : Int) < 3 else ¬ (nx : Int) < 3) := by split <;> omega
          have s2' : nx < 3 → ¬ (ny : Int) < 3 := by have := HS.out; omega
          first | (rw [if_pos s1] at s1'; have s3' := s2' s1) | rw [if_neg s1] at s1'
          clear s2' s1
          go_wp2_with (go_at_call 152; refine (spec_l02Div _ _ x y _ (Ty.at_more HX.out mC) (Ty.at_more HY.out mC) (by rw [← HNX.out]; have h1 := HLX.out; have h2 := HNX.out; omega) (by have h1 := HLY.out; exact h1) hy0).mono ?_; rintro e w2 ⟨q, r, rfl, hb2, _, g2⟩; have G2 := Lib.hid g2; clear g2)
          go_roundw
          case rel => exact ⟨y, x % y, Lib.hid (Ty.at_more HY.out mC), Lib.hid (Ty.at_more G2.out mC), Lib.hid (by rw [← HG.out, Nat.gcd_comm y, ← Nat.gcd_rec, Nat.gcd_comm]), HLY, Lib.hid (Nat.le_trans (limbs_len_mono (Nat.le_of_lt (Nat.mod_lt x hy0))) HLY.out), mC⟩
          case measure =>
            rw [natIn_eq HY.out]
            rw [natIn_eq (Ty.at_more G2.out mC)]
            exact Nat.mod_lt x hy0
    · have h1' : ¬ (0 : Int) < (ny : Int) := by omega
      have h0 : ny = 0 := by omega
      subst h0
      have hy : y = 0 := limbs_nil.1 (List.eq_nil_of_length_eq_zero HN.out.symm)
      subst hy
      go_wp2_with fail
      go_ret
      exact ⟨_, rfl, mC, by rw [← HG.out, Nat.gcd_zero_right]; exact Ty.at_more HX.out mC⟩
end Go.Proofs.YtnbefpfijaimjaaGreatDoor
