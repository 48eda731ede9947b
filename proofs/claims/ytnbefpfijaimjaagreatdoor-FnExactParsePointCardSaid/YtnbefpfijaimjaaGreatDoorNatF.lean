/- Natural numbers as limbs: quotient and remainder: the program's and the reference's. -/
import Derived.Test.YtnbefpfijaimjaaGreatDoorRows
import Derived.Test.YtnbefpfijaimjaaGreatDoorNatE
import Derived.Test.YtnbefpfijaimjaaGreatDoorApp
import Derived.Deep.RegionHeld3
import Derived.Deep.QuietTactic
import Derived.BigQuiet
import Derived.IntWalk
namespace Go.Proofs.YtnbefpfijaimjaaGreatDoor
open Go.RowKit
theorem Ty.rd_more {α : Type} {S : Ty α} {p : Nat → Prop} {w w' : World} {cs : List Value} {x : α} (h : S.rd p w cs x) (hb : More w w') : S.rd p w' cs x :=
  S.keep h (fun k hp hl => ⟨hp, hb.block k hl, Nat.lt_of_lt_of_le hl hb.size⟩)
theorem sl_takeP {α : Type} {S : Ty α} {p : Nat → Prop} {w : World} {ao : Option Addr} {n cap m : Nat} {l : List α} (h : (tSlice S).rd p w [.slice ao n cap] l) (hm : m ≤ n) : (tSlice S).rd p w [.slice ao m cap] (l.take m) := by
  obtain ⟨ao', cap', h0, k1, k2, k3, k4⟩ := slRd_at h
  simp at h0
  obtain ⟨rfl, rfl, rfl⟩ := h0
  have hl : (l.take m).length = m := by rw [List.length_take, Nat.min_eq_left hm]
  refine ⟨ao, cap, by rw [hl], by omega, k2, k3, fun h0 => ?_⟩
  obtain ⟨b, off, rfl, hp, hb, he⟩ := k4 (by omega)
  refine ⟨b, off, rfl, hp, hb, fun k x hx => he k x ?_⟩
  rw [List.getElem?_take] at hx
  split at hx
  · exact hx
  · cases hx
theorem Ty.fresh_rd {α : Type} {S : Ty α} {B : Nat} {w : World} {cs : List Value} {x : α} (h : S.fresh B w cs x) : S.rd (fun k => B ≤ k) w cs x := by
  obtain ⟨bs, h1, _, h3⟩ := h
  exact S.keep (S.own_rd h1) (fun k hk hl => ⟨h3 k hk, rfl, hl⟩)
/-- What is read from blocks from B on is kept where one below B is written. -/
theorem Ty.rd_set {α : Type} {S : Ty α} {B : Nat} {w : World} {cs : List Value} {x : α} {a : Addr} {u : Value} (h : S.rd (fun k => B ≤ k) w cs x) (ha : a.block < B) : S.rd (fun k => B ≤ k) (w.setCell a u) cs x :=
  S.keep h (fun k hp hl => by
    have ht := (Turns.refl [a.block] w).setCell (p := a) (.inl (by simp)) u
    exact ⟨hp, ht.block k hl (by simp; omega), Nat.lt_of_lt_of_le hl ht.size⟩)
set_option maxHeartbeats 1600000 in
theorem impl_trimmedP (p : Nat → Prop) (v : Value) (l : List Int) (N : Nat) (w : World) (hv : tInts.rd p w [v] l) (hl : l.length ≤ 1048576) (hok : IsL l) (hval : val l = N) :
    Calls Tryz.prog 88 #[v] w fun e w' => ∃ v', e = .returned v' ∧ More w w' ∧ tInts.rd p w' [v'] (limbs N) := by
  obtain ⟨ao, cap, rfl, k1, k2, k3, -⟩ := slRd_at hv
  have HV := Lib.hid hv; have HOK := Lib.hid hok; have HVAL := Lib.hid hval; clear hv hok hval
  have hcap : cap ≤ 9223372036854775807 := by unfold maxLen at k2; omega
  clear k2
  obtain ⟨n, hn⟩ : ∃ n, n = l.length := ⟨_, rfl⟩
  rw [← hn] at HV hl k1 ⊢
  have HN := Lib.hid hn; clear hn
  go_enter Tryz.func88, Tryz.ntmps88
  go_wp2_with fail
  go_loopw [3] (fun i wr => ∃ m : Nat, m ≤ n ∧ i = .int .i64 m ∧ More w wr ∧ Hid (∀ j, m ≤ j → j < n → l.getD j 0 = 0)) (fun i _ => (intOf i).toNat)
  case atStart => exact ⟨n, Nat.le_refl _, rfl, More.refl _, Lib.hid (fun j h1 h2 => by omega)⟩
  case round =>
    obtain ⟨m, hmn, rfl, hm, HZ⟩ := hrel
    by_cases h0 : 0 < m
    · have hi0 : (0 : Int) < (m : Int) := by omega
      have hi1 : (m : Int) - 1 < (n : Int) := by omega
      have hi2 : (0 : Int) ≤ (m : Int) - 1 := by omega
      have hwk : IntKind.i64.wrap ((m : Int) - 1) = (m : Int) - 1 := IntWalk.i64_in _ (by omega)
      have e9 : ((m : Int) - 1).toNat = m - 1 := by omega
      obtain ⟨b, off, x, rfl, hblt, hx, ox, c0⟩ := int_el (Ty.at_more (Ty.rd_at HV.out) hm) (k := m - 1) (by rw [← HN.out]; omega)
      have HX := Lib.hid hx; clear hx ox
      by_cases hz : x = 0
      · subst hz
        go_wp2_with fail
        go_roundw
        case rel => exact ⟨m - 1, by omega, by go_num, mC, Lib.hid (fun j h1 h2 => by
          by_cases hj : j = m - 1
          · subst hj; rw [List.getD_eq_getElem?_getD, HX.out]; rfl
          · exact HZ.out j (by omega) h2)⟩
        case measure => simp [intOf]; omega
      · have hz' : (x == 0) = false := by simp [hz]
        go_wp2_with fail
        go_ret
        refine ⟨_, rfl, mC, ?_⟩
        have h2 := trim_limbs HOK.out HVAL.out (m := m) (by rw [← HN.out]; exact hmn) (fun j h1 h2 => HZ.out j h1 (by rw [HN.out]; exact h2)) (.inr (by rw [List.getD_eq_getElem?_getD, HX.out]; exact hz))
        rw [← h2]
        exact sl_takeP (Ty.rd_more HV.out mC) hmn
    · have hi0 : ¬ (0 : Int) < (m : Int) := by omega
      have hm0 : m = 0 := by omega
      subst hm0
      go_wp2_with fail
      go_ret
      refine ⟨_, rfl, mC, ?_⟩
      have h2 := trim_limbs HOK.out HVAL.out (m := 0) (by omega) (fun j h1 h2 => HZ.out j h1 (by rw [HN.out]; exact h2)) (.inl rfl)
      rw [← h2]
      exact sl_takeP (Ty.rd_more HV.out mC) hmn
set_option maxHeartbeats 1600000 in
theorem spec_l02TrimP (p : Nat → Prop) (v : Value) (l : List Int) (N : Nat) (w : World) (hv : tInts.rd p w [v] l) (hl : l.length ≤ 1048576) (hok : IsL l) (hval : val l = N) :
    Calls Tryz.prog 79 #[v] w fun e w' => ∃ v', e = .returned v' ∧ More w w' ∧ tInts.rd p w' [v'] (limbs N) := by
  obtain ⟨ao, cap, rfl, k1, k2, k3, -⟩ := slRd_at hv
  have HV := Lib.hid hv; have HOK := Lib.hid hok; have HVAL := Lib.hid hval; clear hv hok hval
  have hcap : cap ≤ 9223372036854775807 := by unfold maxLen at k2; omega
  clear k2
  obtain ⟨n, hn⟩ : ∃ n, n = l.length := ⟨_, rfl⟩
  rw [← hn] at HV hl k1 ⊢
  have HN := Lib.hid hn; clear hn
  go_enter Tryz.func79, Tryz.ntmps79
  go_wp2_with fail
  go_loopw [3] (fun i wr => ∃ m : Nat, m ≤ n ∧ i = .int .i64 m ∧ More w wr ∧ Hid (∀ j, m ≤ j → j < n → l.getD j 0 = 0)) (fun i _ => (intOf i).toNat)
  case atStart => exact ⟨n, Nat.le_refl _, rfl, More.refl _, Lib.hid (fun j h1 h2 => by omega)⟩
  case round =>
    obtain ⟨m, hmn, rfl, hm, HZ⟩ := hrel
    by_cases h0 : 0 < m
    · have hi0 : (0 : Int) < (m : Int) := by omega
      have hi1 : (m : Int) - 1 < (n : Int) := by omega
      have hi2 : (0 : Int) ≤ (m : Int) - 1 := by omega
      have hwk : IntKind.i64.wrap ((m : Int) - 1) = (m : Int) - 1 := IntWalk.i64_in _ (by omega)
      have e9 : ((m : Int) - 1).toNat = m - 1 := by omega
      obtain ⟨b, off, x, rfl, hblt, hx, ox, c0⟩ := int_el (Ty.at_more (Ty.rd_at HV.out) hm) (k := m - 1) (by rw [← HN.out]; omega)
      have HX := Lib.hid hx; clear hx ox
      by_cases hz : x = 0
      · subst hz
        go_wp2_with fail
        go_roundw
        case rel => exact ⟨m - 1, by omega, by go_num, mC, Lib.hid (fun j h1 h2 => by
          by_cases hj : j = m - 1
          · subst hj; rw [List.getD_eq_getElem?_getD, HX.out]; rfl
          · exact HZ.out j (by omega) h2)⟩
        case measure => simp [intOf]; omega
      · have hz' : (x == 0) = false := by simp [hz]
        go_wp2_with fail
        go_ret
        refine ⟨_, rfl, mC, ?_⟩
        have h2 := trim_limbs HOK.out HVAL.out (m := m) (by rw [← HN.out]; exact hmn) (fun j h1 h2 => HZ.out j h1 (by rw [HN.out]; exact h2)) (.inr (by rw [List.getD_eq_getElem?_getD, HX.out]; exact hz))
        rw [← h2]
        exact sl_takeP (Ty.rd_more HV.out mC) hmn
    · have hi0 : ¬ (0 : Int) < (m : Int) := by omega
      have hm0 : m = 0 := by omega
      subst hm0
      go_wp2_with fail
      go_ret
      refine ⟨_, rfl, mC, ?_⟩
      have h2 := trim_limbs HOK.out HVAL.out (m := 0) (by omega) (fun j h1 h2 => HZ.out j h1 (by rw [HN.out]; exact h2)) (.inl rfl)
      rw [← h2]
      exact sl_takeP (Ty.rd_more HV.out mC) hmn
set_option maxRecDepth 4000 in
set_option maxHeartbeats 12800000 in
theorem impl_natDiv (v v' : Value) (a b : Nat) (w : World) (hv : tInts.at w [v] (limbs a)) (hv' : tInts.at w [v'] (limbs b)) (hl : (limbs a).length ≤ 4000) (hmB : (limbs b).length ≤ 4000) (hb0 : 0 < b) :
    Calls Tryz.prog 124 #[v, v'] w fun e w' => ∃ q r, e = .returned (.tuple #[q, r]) ∧ More w w' ∧ tInts.at w' [q] (limbs (a / b)) ∧ tInts.at w' [r] (limbs (a % b)) := by
  obtain ⟨ao, cap, rfl⟩ := sl_len hv
  obtain ⟨ao', cap', rfl⟩ := sl_len hv'
  have HV := Lib.hid hv; have HV' := Lib.hid hv'; have HM := Lib.hid hmB; have HL := Lib.hid hl; clear hv hv'
  have HNB : Hid (0 < (limbs b).length) := Lib.hid (limbs_len_pos.2 (by omega))
  obtain ⟨NN, hn⟩ : ∃ n, n = (limbs a).length := ⟨_, rfl⟩
  obtain ⟨NB, hn'⟩ : ∃ n, n = (limbs b).length := ⟨_, rfl⟩
  rw [← hn] at HV HL hl ⊢
  rw [← hn'] at HV' HM HNB hmB ⊢
  have HN := Lib.hid hn; have HN' := Lib.hid hn'; clear hn hn'
  have hnb := HNB.out
  obtain ⟨i0, hi, hz0, hz1, hz2⟩ := info_parts infoInt_
  by_cases hab : a < b
  · have hc0 : cmpI (a : Int) (b : Int) < 0 := cmpI_neg.2 (by omega)
    obtain ⟨c, ec⟩ : ∃ c, cmpI (a : Int) (b : Int) = c := ⟨_, rfl⟩
    have EC := Lib.hid ec
    rw [ec] at hc0; clear ec
    go_enter Tryz.func124, Tryz.ntmps124
    go_wp2_with (go_at_call 142; refine (impl_natCmp _ _ a b _ (Ty.at_more HV.out mC) (Ty.at_more HV'.out mC) (by rw [← HN.out]; omega) (by rw [← HN'.out]; omega)).mono ?_; rintro e wc ⟨rfl, hbc⟩; rw [EC.out])
    go_ret2
    exact ⟨_, _, rfl, mC, by rw [Nat.div_eq_of_lt hab, limbs_zero]; exact Ty.fresh_at (B := 0) nil_fresh, by rw [Nat.mod_eq_of_lt hab]; exact Ty.at_more HV.out mC⟩
  have hc0 : ¬ cmpI (a : Int) (b : Int) < 0 := fun h => hab (by have := cmpI_neg.1 h; omega)
  obtain ⟨c, ec⟩ : ∃ c, cmpI (a : Int) (b : Int) = c := ⟨_, rfl⟩
  have EC := Lib.hid ec
  rw [ec] at hc0; clear ec
  by_cases h1 : NB = 1
  · subst h1
    have hb1 : b < 1000000000 := by
      have h2 := limbs_len_le (n := b) (k := 1).1 (by rw [← HN'.out]; exact Nat.le_refl _)
      have h3 : bp 1 = 1000000000 := by decide
      omega
    obtain ⟨px, offx, x, rfl, hbltx, hxx, -, ccx⟩ := int_el HV'.out (k := 0) (by rw [← HN'.out]; omega)
    have hxb : x = (b : Int) := by
      rw [limbs_one (by omega) hb1] at hxx
      simpa using hxx.symm
    subst hxb
    clear hxx
    rw [Nat.add_zero] at ccx
    have HMB : Hid (a % b < 9223372036854775808) := Lib.hid (by have := Nat.mod_lt a hb0; omega)
    go_enter Tryz.func124, Tryz.ntmps124
    go_wp2_with (first | (go_at_call 142; refine (impl_natCmp _ _ a b _ (Ty.at_more HV.out mC) (Ty.at_more HV'.out mC) (by rw [← HN.out]; omega) (by rw [← HN'.out]; omega)).mono ?_; rintro e wc ⟨rfl, hbc⟩; rw [EC.out]; have ccx1 := box_keep hbc hbltx ccx) | (go_at_call 125; refine (impl_natDivSmall _ a b _ (Ty.at_more HV.out mC) (by rw [← HN.out]; omega) hb0 hb1).mono ?_; rintro e w2 ⟨u2, rfl, hb2, g2⟩; have G1 := Lib.hid g2; clear g2) | (go_at_call 148; refine (impl_natOf (a % b) _ HMB.out).mono ?_; rintro e w3 ⟨u3, rfl, hb3, g3⟩; have G2 := Lib.hid g3; clear g3))
    go_ret2
    exact ⟨_, _, rfl, mC, Ty.at_more G1.out mC, Ty.at_more G2.out mC⟩
  have h1e : ((NB : Int) == 1) = false := by simp; omega
  have h2 : 2 ≤ NB := by omega
  go_enter Tryz.func124, Tryz.ntmps124
  go_wp2_with (first | (go_at_call 142; refine (impl_natCmp _ _ a b _ (Ty.at_more HV.out mC) (Ty.at_more HV'.out mC) (by rw [← HN.out]; omega) (by rw [← HN'.out]; omega)).mono ?_; rintro e wc ⟨rfl, hbc⟩; rw [EC.out]) | (at_make; refine wpList_make_full _ rfl _ _ 22 rfl wc.heap.size 3 i0 (.int .i64 0) 1 Tryz.underlying22 hi hz0 hz1 _ _ _ _ NN rfl rfl ?_ ?_ ?_ ?_ ?_ ?_))
  all_goals first | rfl | omega | (rw [hz2]; omega) | (unfold maxLen; omega) | exact Nat.le_refl _ | skip
  intro w1 hown hgr
  have hb1 : More wc w1 := Turns.more ((Turns.refl _ _).grown hgr (by simp))
  have HO : Hid (RowI wc.heap.size 3 w1 wc.heap.size NN (List.replicate NN 0)) := Lib.hid (RowI.made (by rw [Nat.mul_one]; exact hown))
  clear hown hgr
  go_wp2_with fail
  go_loopw [9,10] (fun rs i wr => ∃ (k : Nat) (xs : List Int) (r0 : Nat) (u : Value), k ≤ NN ∧ i = .int .i64 ((k : Int) - 1) ∧ rs = u ∧ More wc wr ∧ Hid (RowI wc.heap.size 3 wr wc.heap.size NN xs) ∧ Hid (tInts.at wr [u] (limbs r0)) ∧ Hid (DivInv a b k xs r0)) (fun _ i _ => (intOf i + 1).toNat)
  case atStart => exact ⟨NN, _, 0, _, Nat.le_refl _, by go_num, rfl, mC, Lib.hid (HO.out.more mC), Lib.hid (FlatOwn.at (F := fInt) (FlatOwn.lit (B := 0) (Nat.zero_le _))), Lib.hid (by rw [HN.out]; exact DivInv.start a b (by omega))⟩
  case round =>
    clear HO hb1
    obtain ⟨k, xs, r0, u, hk, rfl, rfl, hm, HR, HU, HI⟩ := hrel
    by_cases h0 : 0 < k
    · obtain ⟨p, hp⟩ : ∃ p, k = p + 1 := ⟨k - 1, by omega⟩
      subst hp
      have hpN : p < NN := by omega
      have hpi : (p : Int) < (NN : Int) := by omega
      have hp0 : (0 : Int) ≤ (p : Int) := by omega
      have hkp : ((p + 1 : Nat) : Int) - 1 = (p : Int) := by omega
      rw [hkp]
      have hwk : IntKind.i64.wrap ((p : Int) - 1) = (p : Int) - 1 := IntWalk.i64_in _ (by omega)
      have hmw : More w wr := More.trans (show More w wc from hbc) hm
      have hszc : w.heap.size ≤ wc.heap.size := ((show More w wc from hbc)).size
      obtain ⟨px, offx, x, rfl, hbltx, hxx, -, ccx⟩ := int_el (Ty.at_more HV.out hmw) (k := p) (by rw [← HN.out]; exact hpN)
      have GX : Hid ((limbs a).getD p 0 = x) := Lib.hid (by rw [List.getD_eq_getElem?_getD, hxx]; rfl)
      have hgx := limbs_get a p
      rw [GX.out] at hgx
      clear hxx
      obtain ⟨q0, f0, -, hg0⟩ := HR.out.get (k := p) hpN
      obtain ⟨m, hm'⟩ : ∃ m : Nat, (m : Int) = (r0 : Int) * 1000000000 + x := ⟨(r0 * 1000000000 + x.toNat), by omega⟩
      have HI2 : Hid (DivInv a b p (xs.set p ((m / b : Nat) : Int)) (m % b)) := Lib.hid (HI.out.step (by rw [GX.out]; exact hm'))
      have HI3 : Hid (m < b → DivInv a b p xs m) := Lib.hid (fun h => HI.out.skip (by rw [GX.out]; exact hm') h)
      have HMB : Hid (m < b * 1000000000) := Lib.hid (HI.out.mlt (by rw [GX.out]; exact hm'))
      have HRL : Hid ((limbs r0).length ≤ 4096) := Lib.hid (Nat.le_trans (limbs_len_mono (Nat.le_of_lt HI.out.rest)) (by rw [← HN'.out]; omega))
      have HML : Hid ((limbs m).length ≤ 4096) := Lib.hid (Nat.le_trans (limbs_len_mono (Nat.le_of_lt HMB.out)) (Nat.le_trans (limbs_len_mul b 1000000000) (by have h5 := HN'.out; have h6 : (limbs 1000000000).length ≤ 2 := limbs_len_le.2 (by decide); omega)))
      have HXL : Hid (IsL (x :: limbs r0)) := Lib.hid (IsL.mk hgx (limbs_isL r0))
      have HXV : Hid (val (x :: limbs r0) = m) := Lib.hid (by rw [hm']; show x + 1000000000 * val (limbs r0) = _; rw [limbs_val]; omega)
      have HNR : Hid ((x :: limbs r0).length ≤ 1048576) := Lib.hid (by have := HRL.out; simp; omega)
      have HOX : Hid (In64 x) := Lib.hid (In64.small (by omega))
      clear hm' hmw
      by_cases hlt : m < b
      · have hc1 : cmpI (m : Int) (b : Int) < 0 := cmpI_neg.2 (by omega)
        obtain ⟨c1, ec⟩ : ∃ c, cmpI (m : Int) (b : Int) = c := ⟨_, rfl⟩
        have EC1 := Lib.hid ec
        rw [ec] at hc1; clear ec
        have hc2 : ¬ 0 ≤ c1 := by omega
        go_wp2_with (at_builtin; refine wpList_appAll fInt _ rfl _ _ 22 rfl wr.heap.size 3 i0 (.int .i64 0) 8 Tryz.underlying22 hi hz0 hz1 hz2 rfl (by decide) rfl (FlatOwn.lit1 (Nat.le_refl _) (by first | rfl | simp [fInt]) HOX.out) (More.refl _) rfl (Ty.at_more HU.out mC) (Lib.hid (by have := HRL.out; simp; omega)) (by decide) (Lib.hid (by simp)) ?_)
        intro v2 w2 hl2 hmw2
        have HF : Hid (tInts.rd (fun k => wr.heap.size ≤ k) w2 [v2] (x :: limbs r0)) := Lib.hid (Ty.fresh_rd hl2.fresh)
        have hb2 : More wr w2 := hmw2 _ rfl mC
        clear hl2 hmw2
        go_wp2_with (first | (go_at_call 88; refine (impl_trimmedP _ _ (x :: limbs r0) m _ (Ty.rd_more HF.out mC) HNR.out HXL.out HXV.out).mono ?_; rintro e w3 ⟨u3, rfl, hb3, g3⟩; have G3 := Lib.hid g3; clear g3) | (go_at_call 142; refine (impl_natCmp _ _ m b _ (Ty.at_more (Ty.rd_at G3.out) mC) (Ty.at_more HV'.out mC) (by have := HML.out; omega) (by rw [← HN'.out]; omega)).mono ?_; rintro e w4 ⟨rfl, hb4⟩; rw [EC1.out]))
        go_roundw
        case rel => exact ⟨p, xs, m, _, by omega, by go_num, rfl, mC, Lib.hid (HR.out.more mC), Lib.hid (Ty.at_more (Ty.rd_at G3.out) mC), Lib.hid (HI3.out hlt)⟩
        case measure => simp [intOf]; try omega
      · have hc1 : ¬ cmpI (m : Int) (b : Int) < 0 := fun h => hlt (by have := cmpI_neg.1 h; omega)
        obtain ⟨c1, ec⟩ : ∃ c, cmpI (m : Int) (b : Int) = c := ⟨_, rfl⟩
        have EC1 := Lib.hid ec
        rw [ec] at hc1; clear ec
        have hc2 : 0 ≤ c1 := by omega
        have hmq : m / b < 1000000000 := by
          rw [Nat.div_lt_iff_lt_mul hb0, Nat.mul_comm]
          exact HMB.out
        have HQM : Hid (m - b * (m / b) = m % b) := Lib.hid (by have := Nat.div_add_mod m b; omega)
        have HQL : Hid (b * (m / b) ≤ m) := Lib.hid (Nat.mul_div_le m b)
        obtain ⟨qq, hqq⟩ : ∃ qq, m / b = qq := ⟨_, rfl⟩
        rw [hqq] at HI2 hmq HQM HQL
        have HQ := Lib.hid hqq; clear hqq
        have HQI : Hid (In64 (qq : Int)) := Lib.hid (In64.small (by omega))
        have HQN : Hid ((limbs qq).length ≤ 4096) := Lib.hid (Nat.le_trans (limbs_len_le (k := 1).2 (by have h3 : bp 1 = 1000000000 := (by decide); omega)) (by decide))
        have HPL : Hid ((limbs (b * qq)).length ≤ 4096) := Lib.hid (Nat.le_trans (limbs_len_mono HQL.out) HML.out)
        go_wp2_with (at_builtin; refine wpList_appAll fInt _ rfl _ _ 22 rfl wr.heap.size 3 i0 (.int .i64 0) 8 Tryz.underlying22 hi hz0 hz1 hz2 rfl (by decide) rfl (FlatOwn.lit1 (Nat.le_refl _) (by first | rfl | simp [fInt]) HOX.out) (More.refl _) rfl (Ty.at_more HU.out mC) (Lib.hid (by have := HRL.out; simp; omega)) (by decide) (Lib.hid (by simp)) ?_)
        intro v2 w2 hl2 hmw2
        have HF : Hid (tInts.rd (fun k => wr.heap.size ≤ k) w2 [v2] (x :: limbs r0)) := Lib.hid (Ty.fresh_rd hl2.fresh)
        have hb2 : More wr w2 := hmw2 _ rfl mC
        clear hl2 hmw2
        go_wp2_with (first | (go_at_call 88; refine (impl_trimmedP _ _ (x :: limbs r0) m _ (Ty.rd_more HF.out mC) HNR.out HXL.out HXV.out).mono ?_; rintro e w3 ⟨u3, rfl, hb3, g3⟩; have G3 := Lib.hid g3; clear g3) | (go_at_call 142; refine (impl_natCmp _ _ m b _ (Ty.at_more (Ty.rd_at G3.out) mC) (Ty.at_more HV'.out mC) (by have := HML.out; omega) (by rw [← HN'.out]; omega)).mono ?_; rintro e w4 ⟨rfl, hb4⟩; rw [EC1.out]))
        all_goals go_wp2_with (first | (go_at_call 157; refine (impl_digit _ _ m b _ (Ty.at_more (Ty.rd_at G3.out) mC) (Ty.at_more HV'.out mC) HML.out (by rw [← HN'.out]; omega) (by rw [← HN'.out]; omega) (Nat.le_of_not_lt hlt) HMB.out).mono ?_; rintro e w5 ⟨rfl, hb5⟩; rw [HQ.out]; have G3S : Hid (tInts.rd (fun k => wr.heap.size ≤ k) (w5.setCell ⟨wc.heap.size, p, none⟩ (.int .i64 (qq : Int))) [u3] (limbs m)) := Lib.hid (Ty.rd_set (Ty.rd_more G3.out mC) hg0); have HVS : Hid (tInts.at (w5.setCell ⟨wc.heap.size, p, none⟩ (.int .i64 (qq : Int))) [.slice ao' NB cap'] (limbs b)) := Lib.hid (Ty.at_more HV'.out mC2); have hm5 : More wr w5 := mC; have q5 : w5.cell? ⟨wc.heap.size, p, none⟩ = some (.int .i64 (xs.getD p 0)) := box_keep hm5 hg0 q0; have f5 : w5.frozen? ⟨wc.heap.size, p, none⟩ = false := free_keep hm5 hg0 f0; have q6 : (w5.setCell ⟨wc.heap.size, p, none⟩ (.int .i64 (qq : Int))).cell? ⟨wc.heap.size, p, none⟩ = some (.int .i64 (qq : Int)) := World.cell?_setCell_same _ _ _ q5; have HRS : Hid (RowI wc.heap.size 3 (w5.setCell ⟨wc.heap.size, p, none⟩ (.int .i64 (qq : Int))) wc.heap.size NN (xs.set p (qq : Int))) := Lib.hid ((HR.out.more hm5).set hpN HQI.out); clear hm5) | (go_at_call 148; refine (impl_natOf qq _ (by omega)).mono ?_; rintro e w6 ⟨u6, rfl, hb6, g6⟩; have G6 := Lib.hid g6; clear g6) | (go_at_call 108; refine (impl_natMul _ _ b qq _ (Ty.at_more HVS.out mC) (Ty.at_more G6.out mC) (by rw [← HN'.out]; omega) HQN.out).mono ?_; rintro e w7 ⟨u7, rfl, hb7, g7⟩; have G6B := Lib.hid g7; clear g7) | (go_at_call 143; refine (impl_natSub _ _ m (b * qq) _ (Ty.at_more (Ty.rd_at G3S.out) mC) (Ty.at_more G6B.out mC) HML.out HPL.out HQL.out).mono ?_; rintro e w8 ⟨u8, rfl, hb8, g8⟩; have G7 := Lib.hid g8; clear g8))
        go_roundw
        case rel => exact ⟨p, _, m % b, _, by omega, by go_num, rfl, mC2, Lib.hid (HRS.out.more mC), Lib.hid (by rw [← HQM.out]; exact Ty.at_more G7.out mC), HI2⟩
        case measure => simp [intOf]; try omega
    · have hk0 : k = 0 := by omega
      subst hk0
      have HD := Lib.hid HI.out.done
      go_wp2_with (go_at_call 88; refine (impl_trimmed _ xs (a / b) _ (Ty.at_more HR.out.at mC) (by rw [HI.out.len, ← HN.out]; omega) HD.out.1 HD.out.2.1).mono ?_; rintro e w9 ⟨u9, rfl, hb9, g9⟩; have G9 := Lib.hid g9; clear g9)
      go_ret2
      exact ⟨_, _, rfl, More.trans (show More w wc from hbc) mC, G9.out, by rw [← HD.out.2.2]; exact Ty.at_more HU.out mC⟩
set_option maxRecDepth 4000 in
set_option maxHeartbeats 12800000 in
theorem spec_l02Div (v v' : Value) (a b : Nat) (w : World) (hv : tInts.at w [v] (limbs a)) (hv' : tInts.at w [v'] (limbs b)) (hl : (limbs a).length ≤ 4000) (hmB : (limbs b).length ≤ 4000) (hb0 : 0 < b) :
    Calls Tryz.prog 152 #[v, v'] w fun e w' => ∃ q r, e = .returned (.tuple #[q, r]) ∧ More w w' ∧ tInts.at w' [q] (limbs (a / b)) ∧ tInts.at w' [r] (limbs (a % b)) := by
  obtain ⟨ao, cap, rfl⟩ := sl_len hv
  obtain ⟨ao', cap', rfl⟩ := sl_len hv'
  have HV := Lib.hid hv; have HV' := Lib.hid hv'; have HM := Lib.hid hmB; have HL := Lib.hid hl; clear hv hv'
  have HNB : Hid (0 < (limbs b).length) := Lib.hid (limbs_len_pos.2 (by omega))
  obtain ⟨NN, hn⟩ : ∃ n, n = (limbs a).length := ⟨_, rfl⟩
  obtain ⟨NB, hn'⟩ : ∃ n, n = (limbs b).length := ⟨_, rfl⟩
  rw [← hn] at HV HL hl ⊢
  rw [← hn'] at HV' HM HNB hmB ⊢
  have HN := Lib.hid hn; have HN' := Lib.hid hn'; clear hn hn'
  have hnb := HNB.out
  obtain ⟨i0, hi, hz0, hz1, hz2⟩ := info_parts infoInt_
  by_cases h1 : NB = 1
  · subst h1
    have hb1 : b < 1000000000 := by
      have h2 := limbs_len_le (n := b) (k := 1).1 (by rw [← HN'.out]; exact Nat.le_refl _)
      have h3 : bp 1 = 1000000000 := by decide
      omega
    obtain ⟨px, offx, x, rfl, hbltx, hxx, -, ccx⟩ := int_el HV'.out (k := 0) (by rw [← HN'.out]; omega)
    have hxb : x = (b : Int) := by
      rw [limbs_one (by omega) hb1] at hxx
      simpa using hxx.symm
    subst hxb
    clear hxx
    rw [Nat.add_zero] at ccx
    have HMB : Hid (a % b < 9223372036854775808) := Lib.hid (by have := Nat.mod_lt a hb0; omega)
    go_enter Tryz.func152, Tryz.ntmps152
    go_wp2_with (first | (go_at_call 176; refine (spec_l02Small _ a b _ (Ty.at_more HV.out mC) (by rw [← HN.out]; omega) hb0 hb1).mono ?_; rintro e w2 ⟨u2, rfl, hb2, g2⟩; have G1 := Lib.hid g2; clear g2) | (go_at_call 130; refine (spec_NatOf (a % b) _ HMB.out).mono ?_; rintro e w3 ⟨u3, rfl, hb3, g3⟩; have G2 := Lib.hid g3; clear g3))
    go_ret2
    exact ⟨_, _, rfl, mC, Ty.at_more G1.out mC, Ty.at_more G2.out mC⟩
  have h1e : ((NB : Int) == 1) = false := by simp; omega
  have h2 : 2 ≤ NB := by omega
  go_enter Tryz.func152, Tryz.ntmps152
  go_wp2_with (at_make; refine wpList_make_full _ rfl _ _ 22 rfl w.heap.size 3 i0 (.int .i64 0) 1 Tryz.underlying22 hi hz0 hz1 _ _ _ _ NN rfl rfl ?_ ?_ ?_ ?_ ?_ ?_)
  all_goals first | rfl | omega | (rw [hz2]; omega) | (unfold maxLen; omega) | exact Nat.le_refl _ | skip
  intro w1 hown hgr
  have hb1 : More w w1 := Turns.more ((Turns.refl _ _).grown hgr (by simp))
  have HO : Hid (RowI w.heap.size 3 w1 w.heap.size NN (List.replicate NN 0)) := Lib.hid (RowI.made (by rw [Nat.mul_one]; exact hown))
  clear hown hgr
  go_wp2_with fail
  go_loopw [9,10] (fun rs i wr => ∃ (k : Nat) (xs : List Int) (r0 : Nat) (u : Value), k ≤ NN ∧ i = .int .i64 ((k : Int) - 1) ∧ rs = u ∧ More w wr ∧ Hid (RowI w.heap.size 3 wr w.heap.size NN xs) ∧ Hid (tInts.at wr [u] (limbs r0)) ∧ Hid (DivInv a b k xs r0)) (fun _ i _ => (intOf i + 1).toNat)
  case atStart => exact ⟨NN, _, 0, _, Nat.le_refl _, by go_num, rfl, mC, Lib.hid (HO.out.more mC), Lib.hid (FlatOwn.at (F := fInt) (FlatOwn.lit (B := 0) (Nat.zero_le _))), Lib.hid (by rw [HN.out]; exact DivInv.start a b (by omega))⟩
  case round =>
    clear HO hb1
    obtain ⟨k, xs, r0, u, hk, rfl, rfl, hm, HR, HU, HI⟩ := hrel
    by_cases h0 : 0 < k
    · obtain ⟨p, hp⟩ : ∃ p, k = p + 1 := ⟨k - 1, by omega⟩
      subst hp
      have hpN : p < NN := by omega
      have hpi : (p : Int) < (NN : Int) := by omega
      have hp0 : (0 : Int) ≤ (p : Int) := by omega
      have hkp : ((p + 1 : Nat) : Int) - 1 = (p : Int) := by omega
      rw [hkp]
      have hwk : IntKind.i64.wrap ((p : Int) - 1) = (p : Int) - 1 := IntWalk.i64_in _ (by omega)
      have hmw : More w wr := More.trans (More.refl w) hm
      have hszc : w.heap.size ≤ w.heap.size := ((More.refl w)).size
      obtain ⟨px, offx, x, rfl, hbltx, hxx, -, ccx⟩ := int_el (Ty.at_more HV.out hmw) (k := p) (by rw [← HN.out]; exact hpN)
      have GX : Hid ((limbs a).getD p 0 = x) := Lib.hid (by rw [List.getD_eq_getElem?_getD, hxx]; rfl)
      have hgx := limbs_get a p
      rw [GX.out] at hgx
      clear hxx
      obtain ⟨q0, f0, -, hg0⟩ := HR.out.get (k := p) hpN
      obtain ⟨m, hm'⟩ : ∃ m : Nat, (m : Int) = (r0 : Int) * 1000000000 + x := ⟨(r0 * 1000000000 + x.toNat), by omega⟩
      have HI2 : Hid (DivInv a b p (xs.set p ((m / b : Nat) : Int)) (m % b)) := Lib.hid (HI.out.step (by rw [GX.out]; exact hm'))
      have HI3 : Hid (m < b → DivInv a b p xs m) := Lib.hid (fun h => HI.out.skip (by rw [GX.out]; exact hm') h)
      have HMB : Hid (m < b * 1000000000) := Lib.hid (HI.out.mlt (by rw [GX.out]; exact hm'))
      have HRL : Hid ((limbs r0).length ≤ 4096) := Lib.hid (Nat.le_trans (limbs_len_mono (Nat.le_of_lt HI.out.rest)) (by rw [← HN'.out]; omega))
      have HML : Hid ((limbs m).length ≤ 4096) := Lib.hid (Nat.le_trans (limbs_len_mono (Nat.le_of_lt HMB.out)) (Nat.le_trans (limbs_len_mul b 1000000000) (by have h5 := HN'.out; have h6 : (limbs 1000000000).length ≤ 2 := limbs_len_le.2 (by decide); omega)))
      have HXL : Hid (IsL (x :: limbs r0)) := Lib.hid (IsL.mk hgx (limbs_isL r0))
      have HXV : Hid (val (x :: limbs r0) = m) := Lib.hid (by rw [hm']; show x + 1000000000 * val (limbs r0) = _; rw [limbs_val]; omega)
      have HNR : Hid ((x :: limbs r0).length ≤ 1048576) := Lib.hid (by have := HRL.out; simp; omega)
      have HOX : Hid (In64 x) := Lib.hid (In64.small (by omega))
      clear hm' hmw
      by_cases hlt : m < b
      · have hc1 : cmpI (m : Int) (b : Int) < 0 := cmpI_neg.2 (by omega)
        obtain ⟨c1, ec⟩ : ∃ c, cmpI (m : Int) (b : Int) = c := ⟨_, rfl⟩
        have EC1 := Lib.hid ec
        rw [ec] at hc1; clear ec
        have hc2 : ¬ 0 ≤ c1 := by omega
        go_wp2_with (at_builtin; refine wpList_appAll fInt _ rfl _ _ 22 rfl wr.heap.size 3 i0 (.int .i64 0) 8 Tryz.underlying22 hi hz0 hz1 hz2 rfl (by decide) rfl (FlatOwn.lit1 (Nat.le_refl _) (by first | rfl | simp [fInt]) HOX.out) (More.refl _) rfl (Ty.at_more HU.out mC) (Lib.hid (by have := HRL.out; simp; omega)) (by decide) (Lib.hid (by simp)) ?_)
        intro v2 w2 hl2 hmw2
        have HF : Hid (tInts.rd (fun k => wr.heap.size ≤ k) w2 [v2] (x :: limbs r0)) := Lib.hid (Ty.fresh_rd hl2.fresh)
        have hb2 : More wr w2 := hmw2 _ rfl mC
        clear hl2 hmw2
        go_wp2_with (first | (go_at_call 79; refine (spec_l02TrimP _ _ (x :: limbs r0) m _ (Ty.rd_more HF.out mC) HNR.out HXL.out HXV.out).mono ?_; rintro e w3 ⟨u3, rfl, hb3, g3⟩; have G3 := Lib.hid g3; clear g3) | (go_at_call 159; refine (spec_l02Cmp _ _ m b _ (Ty.at_more (Ty.rd_at G3.out) mC) (Ty.at_more HV'.out mC) (by have := HML.out; omega) (by rw [← HN'.out]; omega)).mono ?_; rintro e w4 ⟨rfl, hb4⟩; rw [EC1.out]))
        go_roundw
        case rel => exact ⟨p, xs, m, _, by omega, by go_num, rfl, mC, Lib.hid (HR.out.more mC), Lib.hid (Ty.at_more (Ty.rd_at G3.out) mC), Lib.hid (HI3.out hlt)⟩
        case measure => simp [intOf]; try omega
      · have hc1 : ¬ cmpI (m : Int) (b : Int) < 0 := fun h => hlt (by have := cmpI_neg.1 h; omega)
        obtain ⟨c1, ec⟩ : ∃ c, cmpI (m : Int) (b : Int) = c := ⟨_, rfl⟩
        have EC1 := Lib.hid ec
        rw [ec] at hc1; clear ec
        have hc2 : 0 ≤ c1 := by omega
        have hmq : m / b < 1000000000 := by
          rw [Nat.div_lt_iff_lt_mul hb0, Nat.mul_comm]
          exact HMB.out
        have HQM : Hid (m - b * (m / b) = m % b) := Lib.hid (by have := Nat.div_add_mod m b; omega)
        have HQL : Hid (b * (m / b) ≤ m) := Lib.hid (Nat.mul_div_le m b)
        obtain ⟨qq, hqq⟩ : ∃ qq, m / b = qq := ⟨_, rfl⟩
        rw [hqq] at HI2 hmq HQM HQL
        have HQ := Lib.hid hqq; clear hqq
        have HQI : Hid (In64 (qq : Int)) := Lib.hid (In64.small (by omega))
        have HQN : Hid ((limbs qq).length ≤ 4096) := Lib.hid (Nat.le_trans (limbs_len_le (k := 1).2 (by have h3 : bp 1 = 1000000000 := (by decide); omega)) (by decide))
        have HPL : Hid ((limbs (b * qq)).length ≤ 4096) := Lib.hid (Nat.le_trans (limbs_len_mono HQL.out) HML.out)
        go_wp2_with (at_builtin; refine wpList_appAll fInt _ rfl _ _ 22 rfl wr.heap.size 3 i0 (.int .i64 0) 8 Tryz.underlying22 hi hz0 hz1 hz2 rfl (by decide) rfl (FlatOwn.lit1 (Nat.le_refl _) (by first | rfl | simp [fInt]) HOX.out) (More.refl _) rfl (Ty.at_more HU.out mC) (Lib.hid (by have := HRL.out; simp; omega)) (by decide) (Lib.hid (by simp)) ?_)
        intro v2 w2 hl2 hmw2
        have HF : Hid (tInts.rd (fun k => wr.heap.size ≤ k) w2 [v2] (x :: limbs r0)) := Lib.hid (Ty.fresh_rd hl2.fresh)
        have hb2 : More wr w2 := hmw2 _ rfl mC
        clear hl2 hmw2
        go_wp2_with (first | (go_at_call 79; refine (spec_l02TrimP _ _ (x :: limbs r0) m _ (Ty.rd_more HF.out mC) HNR.out HXL.out HXV.out).mono ?_; rintro e w3 ⟨u3, rfl, hb3, g3⟩; have G3 := Lib.hid g3; clear g3) | (go_at_call 159; refine (spec_l02Cmp _ _ m b _ (Ty.at_more (Ty.rd_at G3.out) mC) (Ty.at_more HV'.out mC) (by have := HML.out; omega) (by rw [← HN'.out]; omega)).mono ?_; rintro e w4 ⟨rfl, hb4⟩; rw [EC1.out]))
        all_goals go_wp2_with (first | (go_at_call 177; refine (spec_l02Digit _ _ m b _ (Ty.at_more (Ty.rd_at G3.out) mC) (Ty.at_more HV'.out mC) HML.out (by rw [← HN'.out]; omega) hb0 HMB.out).mono ?_; rintro e w5 ⟨rfl, hb5⟩; rw [HQ.out]; have G3S : Hid (tInts.rd (fun k => wr.heap.size ≤ k) (w5.setCell ⟨w.heap.size, p, none⟩ (.int .i64 (qq : Int))) [u3] (limbs m)) := Lib.hid (Ty.rd_set (Ty.rd_more G3.out mC) hg0); have HVS : Hid (tInts.at (w5.setCell ⟨w.heap.size, p, none⟩ (.int .i64 (qq : Int))) [.slice ao' NB cap'] (limbs b)) := Lib.hid (Ty.at_more HV'.out mC2); have hm5 : More wr w5 := mC; have q5 : w5.cell? ⟨w.heap.size, p, none⟩ = some (.int .i64 (xs.getD p 0)) := box_keep hm5 hg0 q0; have f5 : w5.frozen? ⟨w.heap.size, p, none⟩ = false := free_keep hm5 hg0 f0; have q6 : (w5.setCell ⟨w.heap.size, p, none⟩ (.int .i64 (qq : Int))).cell? ⟨w.heap.size, p, none⟩ = some (.int .i64 (qq : Int)) := World.cell?_setCell_same _ _ _ q5; have HRS : Hid (RowI w.heap.size 3 (w5.setCell ⟨w.heap.size, p, none⟩ (.int .i64 (qq : Int))) w.heap.size NN (xs.set p (qq : Int))) := Lib.hid ((HR.out.more hm5).set hpN HQI.out); clear hm5) | (go_at_call 130; refine (spec_NatOf qq _ (by omega)).mono ?_; rintro e w6 ⟨u6, rfl, hb6, g6⟩; have G6 := Lib.hid g6; clear g6) | (go_at_call 129; refine (spec_l02Mul _ _ b qq _ (Ty.at_more HVS.out mC) (Ty.at_more G6.out mC) (by rw [← HN'.out]; omega) HQN.out).mono ?_; rintro e w7 ⟨u7, rfl, hb7, g7⟩; have G6B := Lib.hid g7; clear g7) | (go_at_call 160; refine (spec_l02Sub _ _ m (b * qq) _ (Ty.at_more (Ty.rd_at G3S.out) mC) (Ty.at_more G6B.out mC) HML.out HPL.out HQL.out).mono ?_; rintro e w8 ⟨u8, rfl, hb8, g8⟩; have G7 := Lib.hid g8; clear g8))
        go_roundw
        case rel => exact ⟨p, _, m % b, _, by omega, by go_num, rfl, mC2, Lib.hid (HRS.out.more mC), Lib.hid (by rw [← HQM.out]; exact Ty.at_more G7.out mC), HI2⟩
        case measure => simp [intOf]; try omega
    · have hk0 : k = 0 := by omega
      subst hk0
      have HD := Lib.hid HI.out.done
      go_wp2_with (go_at_call 79; refine (spec_l02Trim _ xs (a / b) _ (Ty.at_more HR.out.at mC) (by rw [HI.out.len, ← HN.out]; omega) HD.out.1 HD.out.2.1).mono ?_; rintro e w9 ⟨u9, rfl, hb9, g9⟩; have G9 := Lib.hid g9; clear g9)
      go_ret2
      exact ⟨_, _, rfl, More.trans (More.refl w) mC, G9.out, by rw [← HD.out.2.2]; exact Ty.at_more HU.out mC⟩
end Go.Proofs.YtnbefpfijaimjaaGreatDoor
