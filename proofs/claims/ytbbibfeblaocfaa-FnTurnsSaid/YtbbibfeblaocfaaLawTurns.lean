/- FnTurns returns true, for every input. -/
import Derived.Test.YtbbibfeblaocfaaDrw
import Derived.Test.YtbbibfeblaocfaaTrl
import Derived.Deep.RegionHeld3
namespace Go.Proofs.Ytbbibfeblaocfaa
open Go.RowKit
theorem spec_MakeNumI (ao : Option Addr) (cap : Nat) (l : List Int) (m : Nat) (z : Int) (w : World) (hz : z = (m : Int)) (hv : tCode.at w [.slice ao l.length cap] l) (hl : l.length ≤ 1048576) (hm : m ≤ 1000) :
    Calls Try.prog 10 #[.slice ao l.length cap, .int .i64 z] w fun e w' => ∃ x : Nat, x ≤ 65535 ∧ e = .returned (.int .i64 (x : Int)) ∧ More w w' := by
  subst hz
  exact spec_MakeNum ao cap l m w hv hl hm
theorem tmod_nat (x : Nat) (m : Nat) : (x : Int).tmod (m : Int) = ((x % m : Nat) : Int) := by
  rw [Int.tmod_eq_emod_of_nonneg (by omega)]
  rfl
set_option maxRecDepth 8000 in
set_option maxHeartbeats 6400000 in
theorem law_Turns {W : World} (v0 : Value) (l : List Int) (hv0 : tCode.at W [v0] l) :
    Calls Try.prog 3 #[v0] W fun e w' => e = .returned (.bool true) ∧ More W w' := by
  obtain ⟨ao, cap, rfl⟩ := sl_len hv0
  have HV := Lib.hid hv0; clear hv0
  by_cases hl : l.length ≤ 1048576
  rotate_left
  · have h1 : (1048576 : Int) < (l.length : Int) := by omega
    go_enter Try.func3, Try.ntmps3
    go_wp2_with fail
    go_ret
    exact ⟨rfl, mC⟩
  have h1 : ¬ (1048576 : Int) < (l.length : Int) := by omega
  have HL := Lib.hid hl
  go_enter Try.func3, Try.ntmps3
  go_wp2_with (first | (go_at_call 9; refine (spec_MakePolygon0 ao cap l _ HV.out HL.out).mono ?_; rintro e w1 ⟨vp, P, rfl, hb1, fp, hp⟩; obtain ⟨pa, pc, rfl⟩ := sl_len fp; obtain ⟨pn, hpn⟩ : ∃ pn, pn = P.length := ⟨_, rfl⟩; rw [← hpn] at fp ⊢; have HFP := Lib.hid fp; have HP := Lib.hid hp; have HPN := Lib.hid hpn; clear fp hp hpn) | (go_at_call 10; (with_reducible refine (spec_MakeNumI ao cap l 1 1 _ rfl (Ty.at_more HV.out mC) HL.out (by decide)).mono ?_); rintro e w2 ⟨x, hx, rfl, hb2⟩; obtain ⟨kk, hkk, hm2⟩ : ∃ kk : Nat, kk ≤ 8 ∧ (x : Int).tmod 9 = (kk : Int) := ⟨x % 9, by omega, tmod_nat x 9⟩) | (go_at_call 10; (with_reducible refine (spec_MakeNumI ao cap l 2 2 _ rfl (Ty.at_more HV.out mC) HL.out (by decide)).mono ?_); rintro e w3 ⟨y, hy, rfl, hb3⟩; obtain ⟨gi, hgi, hm3⟩ : ∃ gi : Nat, gi ≤ 3 ∧ (y : Int).tmod 4 = (gi : Int) := ⟨y % 4, by omega, tmod_nat y 4⟩) | (go_at_call 10; (with_reducible refine (spec_MakeNumI ao cap l 3 3 _ rfl (Ty.at_more HV.out mC) HL.out (by decide)).mono ?_); rintro e w4 ⟨z, hz, rfl, hb4⟩; obtain ⟨hh, hhh, hm4⟩ : ∃ hh : Nat, hh ≤ 3 ∧ (z : Int).tmod 4 = (hh : Int) := ⟨z % 4, by omega, tmod_nat z 4⟩) | (go_at_call 11; refine (impl_TurnsBetween (gi : Int) (hh : Int) _).mono ?_; rintro e w5 ⟨vt, rfl, hb5, ft⟩; obtain ⟨T, hT⟩ : ∃ T, T = tbF (gi : Int) (hh : Int) := ⟨_, rfl⟩; rw [← hT] at ft; obtain ⟨ta, tc, rfl⟩ := sl_len (Ty.fresh_at ft); obtain ⟨tl, htl⟩ : ∃ tl, tl = T.length := ⟨_, rfl⟩; have ft := Ty.fresh_at ft; rw [← htl] at ft ⊢; have HTL := Lib.hid (And.intro htl (show T.foldl nextH (gi : Int) = (hh : Int) ∧ T.length ≤ 2 by rw [hT]; exact turns_lead (by omega) (by omega))); have htl2 : tl ≤ 2 := (by have := HTL.out; omega); have HFT := Lib.hid ft; have HT := Lib.hid hT; clear ft hT htl))
  go_loopw [7, 30] (fun va vi wr => ∃ k : Nat, vi = .int .i64 k ∧ k ≤ tl ∧ va = .int .i64 ((T.take k).foldl nextH (gi : Int)) ∧ More w5 wr) (fun _ vi _ => tl - (intOf vi).toNat)
  case atStart => exact ⟨0, rfl, Nat.zero_le _, rfl, More.refl _⟩
  case round =>
    obtain ⟨k, rfl, hk, rfl, hm5⟩ := hrel
    have HM5 := Lib.hid hm5
    by_cases hlt : k < tl
    · obtain ⟨b, off, t, rfl, hb, ht, -, c0⟩ := int_el (Ty.at_more HFT.out hm5) (k := k) (by rw [← HTL.out.1]; exact hlt)
      have hi0 : (0 : Int) ≤ (k : Int) := by omega
      have hi1 : (k : Int) < (tl : Int) := by omega
      have HNX : Hid ((T.take (k + 1)).foldl nextH (gi : Int) = nextH ((T.take k).foldl nextH (gi : Int)) t) := Lib.hid (by rw [take_next ht, List.foldl_append]; rfl)
      clear ht
      obtain ⟨av, hav⟩ : ∃ av, av = (T.take k).foldl nextH (gi : Int) := ⟨_, rfl⟩
      rw [← hav] at HNX ⊢
      clear hav
      go_wp2_with (go_at_call 12; refine (impl_NextHeading av t _).mono ?_; rintro e w6 ⟨rfl, hb6⟩)
      go_roundw
      case rel => exact ⟨k + 1, by go_num, by omega, by rw [HNX.out], More.trans HM5.out mC⟩
      case measure => simp [intOf]; omega
    · obtain rfl : k = tl := by omega
      have hnl : ¬ (k : Int) < (k : Int) := by omega
      have hend : (T.take k).foldl nextH (gi : Int) = (hh : Int) := by
        rw [HTL.out.1, List.take_length]
        exact HTL.out.2.1
      rw [hend]
      clear hend
      obtain ⟨A, hA⟩ : ∃ A, A = areaF P := ⟨_, rfl⟩
      obtain ⟨R, hR⟩ : ∃ R, R = reachF P := ⟨_, rfl⟩
      obtain ⟨Q, hQ⟩ : ∃ Q, Q = turnP P (kk : Int) := ⟨_, rfl⟩
      have HQP : Hid (isPoly Q = true) := Lib.hid (by rw [hQ]; exact turn_isPoly HP.out _)
      have HQA : Hid (areaF Q = A) := Lib.hid (by rw [hQ, hA]; exact turn_area HP.out _)
      have HPA : Hid (areaF P = A) := Lib.hid hA.symm
      have HQR : Hid (reachF Q = R) := Lib.hid (by rw [hQ, hR]; exact turn_reach HP.out _)
      have HPR : Hid (reachF P = R) := Lib.hid hR.symm
      have HQB : Hid (turnP Q (4 - (kk : Int)) = P) := Lib.hid (by rw [hQ]; exact turn_back HP.out _)
      have HSS : Hid (samePF P P = true) := Lib.hid (same_self (poly_pos HP.out).1)
      have HQL : Hid (Q.length ≤ 16) := Lib.hid (poly_pos HQP.out).2
      have HPL : Hid (P.length ≤ 16) := Lib.hid (poly_pos HP.out).2
      have HQE := Lib.hid hQ
      have HPa : Hid (∀ w', More wr w' → tVecs.at w' [.slice pa pn pc] P) := Lib.hid (fun w' h => Ty.at_more HFP.out (More.trans (show More w1 w5 from mC) (More.trans HM5.out h)))
      have hk4 : IntKind.i64.wrap (4 - (kk : Int)) = 4 - (kk : Int) := IntWalk.i64_in _ (by omega)
      clear hA hR hQ
      go_wp2_with (first | (go_at_call 13; (with_reducible refine (impl_TurnPolygon (.slice pa pn pc) P (kk : Int) _ (HPa.out _ mC) (by have := HPL.out; omega)).mono ?_); rintro e w7 ⟨vq, rfl, hb7, fq⟩; rw [← HQE.out] at fq; have fq := Ty.fresh_at fq; obtain ⟨qa, qc, rfl⟩ := sl_len fq; obtain ⟨qn, hqn⟩ : ∃ qn, qn = Q.length := ⟨_, rfl⟩; rw [← hqn] at fq ⊢; have HQa : Hid (∀ w', More w7 w' → tVecs.at w' [.slice qa qn qc] Q) := Lib.hid (fun w' h => Ty.at_more fq h); clear fq hqn) | (go_at_call 13; (with_reducible refine (impl_TurnPolygon (.slice qa qn qc) Q (4 - (kk : Int)) _ (HQa.out _ mC) (by have := HQL.out; omega)).mono ?_); rintro e w9 ⟨vr, rfl, hb9, fr⟩; rw [HQB.out] at fr; have HRa := Lib.hid (Ty.fresh_at fr); clear fr) | (go_at_call 14; (with_reducible refine (impl_IsPolygon (.slice qa qn qc) Q _ (HQa.out _ mC) (by have := HQL.out; omega)).mono ?_); rintro e w8 ⟨rfl, hb8⟩; rw [HQP.out]) | (go_at_call 15; refine (impl_SamePolygon _ _ P P _ (Ty.at_more HRa.out mC) (HPa.out _ mC) (by have := HPL.out; omega) (by have := HPL.out; omega)).mono ?_; rintro e w10 ⟨rfl, hb10⟩; rw [HSS.out]) | (go_at_call 16; (with_reducible refine (impl_DoubleArea (.slice qa qn qc) Q _ (HQa.out _ mC) (by have := HQL.out; omega)).mono ?_); rintro e w11 ⟨rfl, hb11⟩; rw [HQA.out]) | (go_at_call 16; (with_reducible refine (impl_DoubleArea (.slice pa pn pc) P _ (HPa.out _ mC) (by have := HPL.out; omega)).mono ?_); rintro e w12 ⟨rfl, hb12⟩; rw [HPA.out]) | (go_at_call 17; (with_reducible refine (impl_ReachSquare (.slice qa qn qc) Q _ (HQa.out _ mC) (by have := HQL.out; omega)).mono ?_); rintro e w13 ⟨rfl, hb13⟩; rw [HQR.out]) | (go_at_call 17; (with_reducible refine (impl_ReachSquare (.slice pa pn pc) P _ (HPa.out _ mC) (by have := HPL.out; omega)).mono ?_); rintro e w14 ⟨rfl, hb14⟩; rw [HPR.out]) | (go_at_call 11; refine (impl_TurnsBetween (gi : Int) (hh : Int) _).mono ?_; rintro e w15 ⟨vu, rfl, hb15, fu⟩; rw [← HT.out] at fu; have fu := Ty.fresh_at fu; obtain ⟨ua, uc, rfl⟩ := sl_len fu; rw [← HTL.out.1]; have hle2 : (k : Int) ≤ 2 := (by omega)))
      go_ret
      exact ⟨rfl, More.trans (show More W w5 from mC) (More.trans HM5.out (show More wr w15 from mC))⟩
end Go.Proofs.Ytbbibfeblaocfaa
