/- Several texts laid together; each has its own word at its head. -/
import Derived.Test.YtnbefpfijaimjaaGreatDoorGNatE
import Derived.Test.YtnbefpfijaimjaaGreatDoorGBig
import Derived.Test.YtnbefpfijaimjaaGreatDoorGRt
/- Natural numbers as limbs: the reference's greatest common divisor. -/
namespace Go.Proofs.YtnbefpfijaimjaaGreatDoor
open Go.RowKit
theorem drop_step (l : List Int) (p : Nat) (hp : p < l.length) : val (l.drop p) = l.getD p 0 + 1000000000 * val (l.drop (p + 1)) := by
  rw [List.drop_eq_getElem_cons hp]
  show l[p] + 1000000000 * val _ = _
  rw [List.getD_eq_getElem?_getD, List.getElem?_eq_getElem hp]
  rfl
theorem drop_le (n p : Nat) : val ((limbs n).drop p) ≤ n ∧ 0 ≤ val ((limbs n).drop p) := by
  have h0 := val_nonneg ((limbs_isL n).drop p)
  refine ⟨?_, h0⟩
  by_cases hp : p ≤ (limbs n).length
  · have h1 := val_drop (limbs n) p hp
    have h2 := limbs_take_nonneg n p
    rw [limbs_val] at h1
    have h3 : val ((limbs n).drop p) ≤ bp p * val ((limbs n).drop p) := by
      have := Int.mul_le_mul_of_nonneg_right (show 1 ≤ bp p by have := bp_pos p; omega) h0
      omega
    omega
  · rw [List.drop_eq_nil_of_le (by omega)]
    simp [val]
theorem lit_max : limbs 9223372036854775807 = [854775807, 223372036, 9] := by
  refine (can_limbs (l := [854775807, 223372036, 9]) ?_ (by decide)).symm
  have h : IsL ([854775807, 223372036] ++ [9]) := IsL.mk (by decide) (IsL.mk (by decide) (IsL.mk (by decide) IsL.nil))
  exact (can_iff_last h).2 (by decide)
set_option maxRecDepth 4000 in
set_option maxHeartbeats 6400000 in
theorem spec_NatToInt (v : Value) (n : Nat) (w : World) (hv : tInts.at w [v] (limbs n)) (hn : n < 1000000000000000000) :
    Calls Tryz.prog 150 #[v] w fun e w' => e = .returned (.tuple #[.int .i64 (n : Int), .bool true]) ∧ More w w' := by
  obtain ⟨ao, cap, rfl⟩ := sl_len hv
  have HV := Lib.hid hv; clear hv
  have HLL : Hid ((limbs n).length ≤ 2) := Lib.hid (limbs_len_le.2 (by have h3 : bp 2 = 1000000000000000000 := (by decide); omega))
  have HOK : Hid (natOkB (limbs n) = true) := Lib.hid (natOk_limbs (by have := HLL.out; omega))
  obtain ⟨MX, HMX, hMX⟩ : ∃ M : Nat, Hid (limbs M = [854775807, 223372036, 9]) ∧ 1000000000000000000 ≤ M := ⟨9223372036854775807, Lib.hid lit_max, by decide⟩
  have HLM : Hid ((limbs MX).length ≤ 1048576) := Lib.hid (by rw [HMX.out]; decide)
  obtain ⟨NN, hN⟩ : ∃ k, k = (limbs n).length := ⟨_, rfl⟩
  rw [← hN] at HV HLL ⊢
  have HN := Lib.hid hN; clear hN
  have hc0 : ¬ 0 < cmpI (n : Int) (MX : Int) := fun h => by have := cmpI_pos.1 h; omega
  obtain ⟨c, ec⟩ : ∃ c, cmpI (n : Int) (MX : Int) = c := ⟨_, rfl⟩
  have EC := Lib.hid ec
  rw [ec] at hc0; clear ec
  have hnn := HLL.out
  have HNB := Lib.hid hn; clear hn
  go_enter Tryz.func150, Tryz.ntmps150
  go_wp2_with (first | (go_at_call 112; refine (spec_NatOk _ (limbs n) _ (Ty.at_more HV.out mC) (by rw [← HN.out]; omega)).mono ?_; rintro e w1 ⟨rfl, hb1⟩; rw [HOK.out]) | (go_at_call 159; refine (spec_l02Cmp _ _ n MX _ (Ty.at_more HV.out mC) (by rw [HMX.out]; exact Ty.fresh_at (B := 0) (Ty.fresh_mono (lit_fresh fInt rfl rfl rfl (by decide) (by intro x hx; simp at hx; rcases hx with rfl | rfl | rfl <;> exact In64.small (by decide))) (Nat.zero_le _))) (by rw [← HN.out]; omega) HLM.out).mono ?_; rintro e w2 ⟨rfl, hb2⟩; rw [EC.out]))
  go_loopw [4, 5] (fun r i wr => ∃ (k : Nat) (a : Int), k ≤ NN ∧ i = .int .i64 ((k : Int) - 1) ∧ r = .int .i64 a ∧ Hid (a = val ((limbs n).drop k)) ∧ More w wr) (fun _ i _ => (intOf i + 1).toNat)
  case atStart => exact ⟨NN, 0, Nat.le_refl _, by go_num, rfl, Lib.hid (by rw [List.drop_eq_nil_of_le (by rw [← HN.out]; exact Nat.le_refl _)]; rfl), mC⟩
  case round =>
    obtain ⟨k, a, hk, rfl, rfl, HA, hm⟩ := hrel
    by_cases h0 : 0 < k
    · obtain ⟨p, hp⟩ : ∃ p, k = p + 1 := ⟨k - 1, by omega⟩
      subst hp
      have hpN : p < NN := by omega
      have hpi : (p : Int) < (NN : Int) := by omega
      have hp0 : (0 : Int) ≤ (p : Int) := by omega
      have hkp : ((p + 1 : Nat) : Int) - 1 = (p : Int) := by omega
      rw [hkp]
      have hwk : IntKind.i64.wrap ((p : Int) - 1) = (p : Int) - 1 := IntWalk.i64_in _ (by omega)
      obtain ⟨px, offx, x, rfl, hbltx, hxx, -, ccx⟩ := int_el (Ty.at_more HV.out hm) (k := p) (by rw [← HN.out]; exact hpN)
      have GX : Hid ((limbs n).getD p 0 = x) := Lib.hid (by rw [List.getD_eq_getElem?_getD, hxx]; rfl)
      clear hxx
      have HS := Lib.hid (drop_step (limbs n) p (by rw [← HN.out]; exact hpN))
      have HD0 := drop_le n p; have HD1 := drop_le n (p + 1)
      rw [HS.out, GX.out, ← HA.out] at HD0
      rw [← HA.out] at HD1
      have hxg := limbs_get n p
      rw [GX.out] at hxg
      have hnb := HNB.out
      have hw1 : IntKind.i64.wrap (a * 1000000000) = a * 1000000000 := IntWalk.i64_in _ (by omega)
      have hw2 : IntKind.i64.wrap (a * 1000000000 + x) = a * 1000000000 + x := IntWalk.i64_in _ (by omega)
      clear HD0 HD1 hxg hnb
      go_wp2_with fail
      go_roundw
      case rel => exact ⟨p, a * 1000000000 + x, by omega, by first | rfl | go_num, rfl, Lib.hid (by rw [HS.out, GX.out, ← HA.out]; omega), mC⟩
      case measure => simp [intOf]; try omega
    · have hk0 : k = 0 := by omega
      subst hk0
      go_wp2_with fail
      go_ret2
      exact ⟨congrArg (fun z : Int => Ending.returned (Value.tuple #[Value.int .i64 z, Value.bool true])) (by rw [HA.out, List.drop_zero, limbs_val]), mC⟩
set_option maxRecDepth 4000 in
set_option maxHeartbeats 6400000 in
theorem spec_l02Gcd (v v' : Value) (a b : Nat) (w : World) (hv : tInts.at w [v] (limbs a)) (hv' : tInts.at w [v'] (limbs b)) (hl : (limbs a).length ≤ 4000) (hm : (limbs b).length ≤ 4000) :
    Calls Tryz.prog 113 #[v, v'] w fun e w' => ∃ u, e = .returned u ∧ More w w' ∧ tInts.at w' [u] (limbs (Nat.gcd a b)) := by
  have HV := Lib.hid hv; have HV' := Lib.hid hv'; have HL := Lib.hid hl; have HM := Lib.hid hm; clear hv hv' hl hm
  obtain ⟨i0, hi, hz0, hz1, hz2⟩ := info_parts infoInt_
  go_enter Tryz.func113, Tryz.ntmps113
  go_wp2_with (at_builtin; refine wpList_copyAll fInt rfl _ _ 22 rfl 3 i0 (.int .i64 0) 8 Tryz.underlying22 hi hz0 hz1 hz2 rfl (by decide) rfl rfl (Ty.at_more HV.out mC) (Lib.hid (by have := HL.out; omega)) (by decide) ?_)
  intro va wa fa ba
  have FA := Lib.hid (Ty.fresh_at fa); clear fa
  go_wp2_with (at_builtin; refine wpList_copyAll fInt rfl _ _ 22 rfl 3 i0 (.int .i64 0) 8 Tryz.underlying22 hi hz0 hz1 hz2 rfl (by decide) rfl rfl (Ty.at_more HV'.out mC) (Lib.hid (by have := HM.out; omega)) (by decide) ?_)
  intro vb wb fb bb
  have FB := Lib.hid (Ty.fresh_at fb); clear fb
  go_wp2_with fail
  go_loopw [5, 6] (fun u u' wr => ∃ x y : Nat, Hid (tInts.at wr [u] (limbs x)) ∧ Hid (tInts.at wr [u'] (limbs y)) ∧ Hid (Nat.gcd x y = Nat.gcd a b) ∧ Hid ((limbs x).length ≤ 4000) ∧ Hid ((limbs y).length ≤ 4000) ∧ More w wr) (fun _ u' wr => natIn wr u')
  case atStart => exact ⟨a, b, Lib.hid (Ty.at_more FA.out mC), Lib.hid (Ty.at_more FB.out mC), Lib.hid rfl, HL, HM, mC⟩
  case round =>
    clear HV HV' FA FB
    obtain ⟨x, y, HX, HY, HG, HLX, HLY, hm⟩ := hrel
    obtain ⟨aox, capx, rfl⟩ := sl_len HX.out
    obtain ⟨aoy, capy, rfl⟩ := sl_len HY.out
    obtain ⟨nx, hnx⟩ : ∃ n, n = (limbs x).length := ⟨_, rfl⟩
    obtain ⟨ny, hn⟩ : ∃ n, n = (limbs y).length := ⟨_, rfl⟩
    rw [← hnx] at HX ⊢
    rw [← hn] at HY ⊢
    have HNX := Lib.hid hnx; have HN := Lib.hid hn; clear hn hnx
    by_cases h1 : 0 < ny
    · have h1' : (0 : Int) < (ny : Int) := by omega
      have hy0 : 0 < y := by
        rcases Nat.eq_zero_or_pos y with h | h
        · have := HN.out; rw [h, limbs_zero] at this; simp at this; omega
        · exact h
      by_cases hsm : nx < 3 ∧ ny < 3
      · obtain ⟨s1, s2⟩ := hsm
        have s1' : (nx : Int) < 3 := by omega
        have s2' : (ny : Int) < 3 := by omega
        have hx18 : x < 1000000000000000000 := by have h3 : bp 2 = 1000000000000000000 := (by decide); have := limbs_len_le (n := x) (k := 2).1 (by rw [← HNX.out]; omega); omega
        have hy18 : y < 1000000000000000000 := by have h3 : bp 2 = 1000000000000000000 := (by decide); have := limbs_len_le (n := y) (k := 2).1 (by rw [← HN.out]; omega); omega
        have HX18 := Lib.hid hx18; have HY18 := Lib.hid hy18; clear hx18 hy18
        go_wp2_with (first | (go_at_call 150; (with_reducible refine (spec_NatToInt (.slice aox nx capx) x _ (Ty.at_more HX.out mC) HX18.out).mono ?_); rintro e w1 ⟨rfl, hb1⟩) | (go_at_call 150; (with_reducible refine (spec_NatToInt (.slice aoy ny capy) y _ (Ty.at_more HY.out mC) HY18.out).mono ?_); rintro e w2 ⟨rfl, hb2⟩) | (go_at_call 151; refine (spec_l02Plain x y _ (by have := HX18.out; omega) (by have := HY18.out; omega)).mono ?_; rintro e w3 ⟨u3, rfl, hb3, g3⟩; rw [HG.out] at g3; have G3 := Lib.hid g3; clear g3))
        go_ret
        exact ⟨_, rfl, mC, G3.out⟩
      · have HS := Lib.hid hsm; clear hsm
        have DIV : True := trivial
        by_cases s1 : nx < 3
        all_goals
          have s1' : (if nx < 3 then (nx : Int) < 3 else ¬ (nx : Int) < 3) := by split <;> omega
          have s2' : nx < 3 → ¬ (ny : Int) < 3 := by have := HS.out; omega
          first | (rw [if_pos s1] at s1'; have s3' := s2' s1) | rw [if_neg s1] at s1'
          clear s2' s1
          go_wp2_with (go_at_call 152; refine (spec_l02Div _ _ x y _ (Ty.at_more HX.out mC) (Ty.at_more HY.out mC) (by rw [← HNX.out]; have h1 := HLX.out; have h2 := HNX.out; omega) (by have h1 := HLY.out; exact h1) hy0).mono ?_; rintro e w2 ⟨q, r, rfl, hb2, _, g2⟩; have G2 := Lib.hid g2; clear g2)
          go_roundw
          case rel => exact ⟨y, x % y, Lib.hid (Ty.at_more HY.out mC), Lib.hid (Ty.at_more G2.out mC), Lib.hid (by rw [← HG.out, Nat.gcd_comm y, ← Nat.gcd_rec, Nat.gcd_comm]), HLY, Lib.hid (Nat.le_trans (limbs_len_mono (Nat.le_of_lt (Nat.mod_lt x hy0))) HLY.out), mC⟩
          case measure =>
            rw [natIn_eq HY.out]
            rw [natIn_eq (Ty.at_more G2.out mC)]
            exact Nat.mod_lt x hy0
    · have h1' : ¬ (0 : Int) < (ny : Int) := by omega
      have h0 : ny = 0 := by omega
      subst h0
      have hy : y = 0 := limbs_nil.1 (List.eq_nil_of_length_eq_zero HN.out.symm)
      subst hy
      go_wp2_with fail
      go_ret
      exact ⟨_, rfl, mC, by rw [← HG.out, Nat.gcd_zero_right]; exact Ty.at_more HX.out mC⟩
end Go.Proofs.YtnbefpfijaimjaaGreatDoor
/- Whether a whole number, a fraction is valid: the program's and the reference's. -/
namespace Go.Proofs.YtnbefpfijaimjaaGreatDoor
open Go.RowKit
noncomputable def bigOkB (x : QZ) : Bool := natOkB x.2 && !(x.1 && decide (x.2.length = 0))
theorem bigOk_no {x : QZ} (h : natOkB x.2 = false) : bigOkB x = false := by unfold bigOkB; rw [h]; rfl
theorem bigOk_pos {x : QZ} (h : natOkB x.2 = true) (hs : x.1 = false) : bigOkB x = true := by unfold bigOkB; rw [h, hs]; rfl
theorem bigOk_nil {x : QZ} (h : natOkB x.2 = true) (hs : x.1 = true) (h0 : 0 = x.2.length) : bigOkB x = false := by unfold bigOkB; rw [h, hs, ← h0]; rfl
theorem bigOk_neg {x : QZ} (h : natOkB x.2 = true) (h0 : x.2.length ≠ 0) : bigOkB x = true := by unfold bigOkB; rw [h, decide_eq_false h0]; simp
theorem bigOk_out {x : QZ} (h : bigOkB x = true) : ∃ m, x.2 = limbs m ∧ (x.1 = true → m ≠ 0) ∧ x.2.length ≤ 60 := by
  unfold bigOkB at h
  rw [Bool.and_eq_true] at h
  obtain ⟨h1, m, hm⟩ := natOk_out h.1
  refine ⟨m, hm, fun hs => ?_, h1⟩
  rintro rfl
  rw [hs, hm, limbs_zero] at h
  simp at h
open Classical in
noncomputable def ratOkB (x : QR) : Bool := decide (∃ f, Good f ∧ x = encR f)
theorem ratOk_iff {x : QR} : ratOkB x = true ↔ ∃ f, Good f ∧ x = encR f := by unfold ratOkB; simp
theorem ratOk_not {x : QR} (h : ¬ ∃ f, Good f ∧ x = encR f) : ratOkB x = false := Bool.eq_false_iff.2 (fun k => h (ratOk_iff.1 k))
theorem ratOk_parts {x : QR} (h : ratOkB x = true) : bigOkB x.1 = true ∧ natOkB x.2 = true ∧ x.2.length ≠ 0 ∧ x.1.2.length ≤ 24 ∧ x.2.length ≤ 24 := by
  obtain ⟨f, ⟨h1, h2, h3, h4⟩, rfl⟩ := ratOk_iff.1 h
  have h3' := sm_iff.1 h3
  have h4' := sm_iff.1 h4
  refine ⟨?_, natOk_limbs (Nat.le_trans h4' (by decide)), fun e => h1 (limbs_nil.1 (List.eq_nil_of_length_eq_zero e)), h3', h4'⟩
  unfold bigOkB
  rw [Bool.and_eq_true]
  refine ⟨natOk_limbs (Nat.le_trans h3' (by decide)), ?_⟩
  show (!(decide (f.1 < 0) && decide ((limbs f.1.natAbs).length = 0))) = true
  by_cases hz : (limbs f.1.natAbs).length = 0
  · have := limbs_nil.1 (List.eq_nil_of_length_eq_zero hz)
    have : ¬ f.1 < 0 := by omega
    simp [this]
  · simp [hz]
theorem ratOk_gcd {s : Bool} {m d : Nat} (hs : s = true → m ≠ 0) (hd : d ≠ 0) (h1 : (limbs m).length ≤ 24) (h2 : (limbs d).length ≤ 24) : ratOkB ((s, limbs m), limbs d) = decide (Nat.gcd m d = 1) := by
  by_cases hg : Nat.gcd m d = 1
  · rw [decide_eq_true hg, ratOk_iff]
    refine ⟨(sgn s m, d), ⟨hd, by rw [natAbs_sgn]; exact hg, by rw [natAbs_sgn]; exact sm_iff.2 h1, sm_iff.2 h2⟩, ?_⟩
    unfold encR
    rw [encZ_sgn]
    cases s
    · rfl
    · simp [hs rfl]
  · rw [decide_eq_false hg]
    refine ratOk_not ?_
    rintro ⟨f, ⟨_, h4, _, _⟩, he⟩
    have e1 := limbs_inj (congrArg (fun y : QR => y.1.2) he)
    have e2 := limbs_inj (congrArg (fun y : QR => y.2) he)
    rw [← e1, ← e2] at h4
    exact hg h4
/-- What is valid is a fraction's. -/
theorem ratOk_fr {x : QR} (h : ratOkB x = true) : ∃ f, Good f ∧ x = encR f := ratOk_iff.1 h
set_option maxHeartbeats 1600000 in
theorem impl_BigIntOk (b : Bool) (v : Value) (x : QZ) (w : World) (hb : x.1 = b) (hv : tInts.at w [v] x.2) (hl : x.2.length ≤ 1048576) :
    Calls Tryz.prog 86 #[.agg #[.bool b, v]] w fun e w' => e = .returned (.bool (bigOkB x)) ∧ More w w' := by
  obtain ⟨ao, cap, rfl⟩ := sl_len hv
  have HV := Lib.hid hv; have HBB := Lib.hid hb; clear hv hb
  obtain ⟨n, hn⟩ : ∃ n, n = x.2.length := ⟨_, rfl⟩
  rw [← hn] at HV hl ⊢
  have HN := Lib.hid hn; clear hn
  rcases Bool.eq_false_or_eq_true (natOkB x.2) with ho | ho
  rotate_left
  · have HO := Lib.hid ho; clear ho
    have HX : More (w.alloc (.cells #[.bool b, .slice ao n cap] 24)) (w.alloc (.cells #[.bool b, .slice ao n cap] 24)) := More.refl _
    have HB : ∀ w', More (w.alloc (.cells #[.bool b, .slice ao n cap] 24)) w' → w'.cell? ⟨w.heap.size, 0, none⟩ = some (.bool b) ∧ w'.cell? ⟨w.heap.size, 1, none⟩ = some (.slice ao n cap) ∧ (∀ j, w'.frozen? ⟨w.heap.size, j, none⟩ = false) := fun w' h => ⟨box_new (by simp) h 0, box_new (by simp) h 1, fun j => box_free (by simp) h j⟩
    go_enter Tryz.func86, Tryz.ntmps86
    go_wp2_with (first | (go_at_call 89; refine (impl_NatOk _ x.2 _ (Ty.at_more HV.out mC) (by rw [← HN.out]; exact hl)).mono ?_; rintro e w1 ⟨rfl, hb1⟩; have HX1 : More (w.alloc (.cells #[.bool b, .slice ao n cap] 24)) w1 := mC; have HB1 := HB _ HX1; have hz1 := More.size HX1; (try simp at hz1); have hb1 := hb1; rw [HO.out]))
    go_ret
    exact ⟨ret_bool (bigOk_no HO.out).symm, mC⟩
  have HO := Lib.hid ho; clear ho
  cases b
  · skip
    have HX : More (w.alloc (.cells #[.bool false, .slice ao n cap] 24)) (w.alloc (.cells #[.bool false, .slice ao n cap] 24)) := More.refl _
    have HB : ∀ w', More (w.alloc (.cells #[.bool false, .slice ao n cap] 24)) w' → w'.cell? ⟨w.heap.size, 0, none⟩ = some (.bool false) ∧ w'.cell? ⟨w.heap.size, 1, none⟩ = some (.slice ao n cap) ∧ (∀ j, w'.frozen? ⟨w.heap.size, j, none⟩ = false) := fun w' h => ⟨box_new (by simp) h 0, box_new (by simp) h 1, fun j => box_free (by simp) h j⟩
    go_enter Tryz.func86, Tryz.ntmps86
    go_wp2_with (first | (go_at_call 89; refine (impl_NatOk _ x.2 _ (Ty.at_more HV.out mC) (by rw [← HN.out]; exact hl)).mono ?_; rintro e w1 ⟨rfl, hb1⟩; have HX1 : More (w.alloc (.cells #[.bool false, .slice ao n cap] 24)) w1 := mC; have HB1 := HB _ HX1; have hz1 := More.size HX1; (try simp at hz1); have hb1 := hb1; rw [HO.out]))
    go_ret
    exact ⟨ret_bool (bigOk_pos HO.out HBB.out).symm, mC⟩
  · by_cases h0 : n = 0
    · subst h0
      have HX : More (w.alloc (.cells #[.bool true, .slice ao 0 cap] 24)) (w.alloc (.cells #[.bool true, .slice ao 0 cap] 24)) := More.refl _
      have HB : ∀ w', More (w.alloc (.cells #[.bool true, .slice ao 0 cap] 24)) w' → w'.cell? ⟨w.heap.size, 0, none⟩ = some (.bool true) ∧ w'.cell? ⟨w.heap.size, 1, none⟩ = some (.slice ao 0 cap) ∧ (∀ j, w'.frozen? ⟨w.heap.size, j, none⟩ = false) := fun w' h => ⟨box_new (by simp) h 0, box_new (by simp) h 1, fun j => box_free (by simp) h j⟩
      go_enter Tryz.func86, Tryz.ntmps86
      go_wp2_with (first | (go_at_call 89; refine (impl_NatOk _ x.2 _ (Ty.at_more HV.out mC) (by rw [← HN.out]; exact hl)).mono ?_; rintro e w1 ⟨rfl, hb1⟩; have HX1 : More (w.alloc (.cells #[.bool true, .slice ao 0 cap] 24)) w1 := mC; have HB1 := HB _ HX1; have hz1 := More.size HX1; (try simp at hz1); have hb1 := hb1; rw [HO.out]))
      go_ret
      exact ⟨ret_bool (bigOk_nil HO.out HBB.out HN.out).symm, mC⟩
    · have h0' : ((n : Int) == 0) = false := by simp [h0]
      have h1' : (0 : Int) < (n : Int) := by omega
      have HX : More (w.alloc (.cells #[.bool true, .slice ao n cap] 24)) (w.alloc (.cells #[.bool true, .slice ao n cap] 24)) := More.refl _
      have HB : ∀ w', More (w.alloc (.cells #[.bool true, .slice ao n cap] 24)) w' → w'.cell? ⟨w.heap.size, 0, none⟩ = some (.bool true) ∧ w'.cell? ⟨w.heap.size, 1, none⟩ = some (.slice ao n cap) ∧ (∀ j, w'.frozen? ⟨w.heap.size, j, none⟩ = false) := fun w' h => ⟨box_new (by simp) h 0, box_new (by simp) h 1, fun j => box_free (by simp) h j⟩
      go_enter Tryz.func86, Tryz.ntmps86
      go_wp2_with (first | (go_at_call 89; refine (impl_NatOk _ x.2 _ (Ty.at_more HV.out mC) (by rw [← HN.out]; exact hl)).mono ?_; rintro e w1 ⟨rfl, hb1⟩; have HX1 : More (w.alloc (.cells #[.bool true, .slice ao n cap] 24)) w1 := mC; have HB1 := HB _ HX1; have hz1 := More.size HX1; (try simp at hz1); have hb1 := hb1; rw [HO.out]))
      go_ret
      exact ⟨ret_bool (by first | exact (bigOk_neg HO.out (by rw [← HN.out]; exact h0)).symm | (rw [bigOk_neg HO.out (by rw [← HN.out]; exact h0)]; simp <;> omega)), mC⟩
set_option maxHeartbeats 1600000 in
theorem spec_BigIntOk (b : Bool) (v : Value) (x : QZ) (w : World) (hb : x.1 = b) (hv : tInts.at w [v] x.2) (hl : x.2.length ≤ 1048576) :
    Calls Tryz.prog 111 #[.agg #[.bool b, v]] w fun e w' => e = .returned (.bool (bigOkB x)) ∧ More w w' := by
  obtain ⟨ao, cap, rfl⟩ := sl_len hv
  have HV := Lib.hid hv; have HBB := Lib.hid hb; clear hv hb
  obtain ⟨n, hn⟩ : ∃ n, n = x.2.length := ⟨_, rfl⟩
  rw [← hn] at HV hl ⊢
  have HN := Lib.hid hn; clear hn
  rcases Bool.eq_false_or_eq_true (natOkB x.2) with ho | ho
  rotate_left
  · have HO := Lib.hid ho; clear ho
    have HX : More (w.alloc (.cells #[.bool b, .slice ao n cap] 24)) (w.alloc (.cells #[.bool b, .slice ao n cap] 24)) := More.refl _
    have HB : ∀ w', More (w.alloc (.cells #[.bool b, .slice ao n cap] 24)) w' → w'.cell? ⟨w.heap.size, 0, none⟩ = some (.bool b) ∧ w'.cell? ⟨w.heap.size, 1, none⟩ = some (.slice ao n cap) ∧ (∀ j, w'.frozen? ⟨w.heap.size, j, none⟩ = false) := fun w' h => ⟨box_new (by simp) h 0, box_new (by simp) h 1, fun j => box_free (by simp) h j⟩
    go_enter Tryz.func111, Tryz.ntmps111
    go_wp2_with (first | (go_at_call 112; refine (spec_NatOk _ x.2 _ (Ty.at_more HV.out mC) (by rw [← HN.out]; exact hl)).mono ?_; rintro e w1 ⟨rfl, hb1⟩; have HX1 : More (w.alloc (.cells #[.bool b, .slice ao n cap] 24)) w1 := mC; have HB1 := HB _ HX1; have hz1 := More.size HX1; (try simp at hz1); have hb1 := hb1; rw [HO.out]))
    go_ret
    exact ⟨ret_bool (bigOk_no HO.out).symm, mC⟩
  have HO := Lib.hid ho; clear ho
  cases b
  · skip
    have HX : More (w.alloc (.cells #[.bool false, .slice ao n cap] 24)) (w.alloc (.cells #[.bool false, .slice ao n cap] 24)) := More.refl _
    have HB : ∀ w', More (w.alloc (.cells #[.bool false, .slice ao n cap] 24)) w' → w'.cell? ⟨w.heap.size, 0, none⟩ = some (.bool false) ∧ w'.cell? ⟨w.heap.size, 1, none⟩ = some (.slice ao n cap) ∧ (∀ j, w'.frozen? ⟨w.heap.size, j, none⟩ = false) := fun w' h => ⟨box_new (by simp) h 0, box_new (by simp) h 1, fun j => box_free (by simp) h j⟩
    go_enter Tryz.func111, Tryz.ntmps111
    go_wp2_with (first | (go_at_call 112; refine (spec_NatOk _ x.2 _ (Ty.at_more HV.out mC) (by rw [← HN.out]; exact hl)).mono ?_; rintro e w1 ⟨rfl, hb1⟩; have HX1 : More (w.alloc (.cells #[.bool false, .slice ao n cap] 24)) w1 := mC; have HB1 := HB _ HX1; have hz1 := More.size HX1; (try simp at hz1); have hb1 := hb1; rw [HO.out]))
    go_ret
    exact ⟨ret_bool (bigOk_pos HO.out HBB.out).symm, mC⟩
  · by_cases h0 : n = 0
    · subst h0
      have HX : More (w.alloc (.cells #[.bool true, .slice ao 0 cap] 24)) (w.alloc (.cells #[.bool true, .slice ao 0 cap] 24)) := More.refl _
      have HB : ∀ w', More (w.alloc (.cells #[.bool true, .slice ao 0 cap] 24)) w' → w'.cell? ⟨w.heap.size, 0, none⟩ = some (.bool true) ∧ w'.cell? ⟨w.heap.size, 1, none⟩ = some (.slice ao 0 cap) ∧ (∀ j, w'.frozen? ⟨w.heap.size, j, none⟩ = false) := fun w' h => ⟨box_new (by simp) h 0, box_new (by simp) h 1, fun j => box_free (by simp) h j⟩
      go_enter Tryz.func111, Tryz.ntmps111
      go_wp2_with (first | (go_at_call 112; refine (spec_NatOk _ x.2 _ (Ty.at_more HV.out mC) (by rw [← HN.out]; exact hl)).mono ?_; rintro e w1 ⟨rfl, hb1⟩; have HX1 : More (w.alloc (.cells #[.bool true, .slice ao 0 cap] 24)) w1 := mC; have HB1 := HB _ HX1; have hz1 := More.size HX1; (try simp at hz1); have hb1 := hb1; rw [HO.out]))
      go_ret
      exact ⟨ret_bool (bigOk_nil HO.out HBB.out HN.out).symm, mC⟩
    · have h0' : ((n : Int) == 0) = false := by simp [h0]
      have h1' : (0 : Int) < (n : Int) := by omega
      have HX : More (w.alloc (.cells #[.bool true, .slice ao n cap] 24)) (w.alloc (.cells #[.bool true, .slice ao n cap] 24)) := More.refl _
      have HB : ∀ w', More (w.alloc (.cells #[.bool true, .slice ao n cap] 24)) w' → w'.cell? ⟨w.heap.size, 0, none⟩ = some (.bool true) ∧ w'.cell? ⟨w.heap.size, 1, none⟩ = some (.slice ao n cap) ∧ (∀ j, w'.frozen? ⟨w.heap.size, j, none⟩ = false) := fun w' h => ⟨box_new (by simp) h 0, box_new (by simp) h 1, fun j => box_free (by simp) h j⟩
      go_enter Tryz.func111, Tryz.ntmps111
      go_wp2_with (first | (go_at_call 112; refine (spec_NatOk _ x.2 _ (Ty.at_more HV.out mC) (by rw [← HN.out]; exact hl)).mono ?_; rintro e w1 ⟨rfl, hb1⟩; have HX1 : More (w.alloc (.cells #[.bool true, .slice ao n cap] 24)) w1 := mC; have HB1 := HB _ HX1; have hz1 := More.size HX1; (try simp at hz1); have hb1 := hb1; rw [HO.out]))
      go_ret
      exact ⟨ret_bool (by first | exact (bigOk_neg HO.out (by rw [← HN.out]; exact h0)).symm | (rw [bigOk_neg HO.out (by rw [← HN.out]; exact h0)]; simp <;> omega)), mC⟩
set_option maxRecDepth 4000 in
set_option maxHeartbeats 3200000 in
theorem impl_RatOk (b : Bool) (u v : Value) (x : QR) (w : World) (h : tRat.at w [.bool b, u, v] x) (hl : wRat x ≤ 1048576) :
    Calls Tryz.prog 47 #[.agg #[.bool b, u, v]] w fun e w' => e = .returned (.bool (ratOkB x)) ∧ More w w' := by
  obtain ⟨hsb, hm, hd⟩ := rat_split h
  obtain ⟨a1, c1, rfl⟩ := sl_len hm
  obtain ⟨a2, c2, rfl⟩ := sl_len hd
  have HM := Lib.hid hm; have HD := Lib.hid hd; have HSB := Lib.hid hsb; clear h hm hd hsb
  have hl1 : x.1.2.length ≤ 1048576 := by unfold wRat wBigInt wIntS at hl; omega
  have hl2 : x.2.length ≤ 1048576 := by unfold wRat wBigInt wIntS at hl; omega
  clear hl
  obtain ⟨n1, hn1⟩ : ∃ n, n = x.1.2.length := ⟨_, rfl⟩
  obtain ⟨n2, hn2⟩ : ∃ n, n = x.2.length := ⟨_, rfl⟩
  rw [← hn1] at HM hl1 ⊢
  rw [← hn2] at HD hl2 ⊢
  have HN1 := Lib.hid hn1; have HN2 := Lib.hid hn2; clear hn1 hn2
  rcases Bool.eq_false_or_eq_true (bigOkB x.1) with h1 | h1
  rotate_left
  · have H1 := Lib.hid h1; clear h1
    have HX : More (w.alloc (.cells #[.bool b, .slice a1 n1 c1, .slice a2 n2 c2] 26)) (w.alloc (.cells #[.bool b, .slice a1 n1 c1, .slice a2 n2 c2] 26)) := More.refl _
    have HB : ∀ w', More (w.alloc (.cells #[.bool b, .slice a1 n1 c1, .slice a2 n2 c2] 26)) w' → w'.cell? ⟨w.heap.size, 0, none⟩ = some (.bool b) ∧ w'.cell? ⟨w.heap.size, 1, none⟩ = some (.slice a1 n1 c1) ∧ w'.cell? ⟨w.heap.size, 2, none⟩ = some (.slice a2 n2 c2) ∧ (∀ j, w'.frozen? ⟨w.heap.size, j, none⟩ = false) := fun w' h => ⟨box_new (by simp) h 0, box_new (by simp) h 1, box_new (by simp) h 2, fun j => box_free (by simp) h j⟩
    go_enter Tryz.func47, Tryz.ntmps47
    go_wp2_with (first | (go_at_call 86; refine (impl_BigIntOk _ _ x.1 _ HSB.out (Ty.at_more HM.out mC) (by rw [← HN1.out]; omega)).mono ?_; rintro e w1 ⟨rfl, hb1⟩; have HX1 : More (w.alloc (.cells #[.bool b, .slice a1 n1 c1, .slice a2 n2 c2] 26)) w1 := mC; have HB1 := HB _ HX1; have hz1 := More.size HX1; (try simp at hz1); have hb1 := hb1; rw [H1.out]))
    go_ret
    exact ⟨ret_bool (Bool.eq_false_iff.2 (fun k => by have := (ratOk_parts k).1; rw [H1.out] at this; cases this)).symm, mC⟩
  have H1 := Lib.hid h1; clear h1
  rcases Bool.eq_false_or_eq_true (natOkB x.2) with h2 | h2
  rotate_left
  · have H2 := Lib.hid h2; clear h2
    have HX : More (w.alloc (.cells #[.bool b, .slice a1 n1 c1, .slice a2 n2 c2] 26)) (w.alloc (.cells #[.bool b, .slice a1 n1 c1, .slice a2 n2 c2] 26)) := More.refl _
    have HB : ∀ w', More (w.alloc (.cells #[.bool b, .slice a1 n1 c1, .slice a2 n2 c2] 26)) w' → w'.cell? ⟨w.heap.size, 0, none⟩ = some (.bool b) ∧ w'.cell? ⟨w.heap.size, 1, none⟩ = some (.slice a1 n1 c1) ∧ w'.cell? ⟨w.heap.size, 2, none⟩ = some (.slice a2 n2 c2) ∧ (∀ j, w'.frozen? ⟨w.heap.size, j, none⟩ = false) := fun w' h => ⟨box_new (by simp) h 0, box_new (by simp) h 1, box_new (by simp) h 2, fun j => box_free (by simp) h j⟩
    go_enter Tryz.func47, Tryz.ntmps47
    go_wp2_with (first | (go_at_call 86; refine (impl_BigIntOk _ _ x.1 _ HSB.out (Ty.at_more HM.out mC) (by rw [← HN1.out]; omega)).mono ?_; rintro e w1 ⟨rfl, hb1⟩; have HX1 : More (w.alloc (.cells #[.bool b, .slice a1 n1 c1, .slice a2 n2 c2] 26)) w1 := mC; have HB1 := HB _ HX1; have hz1 := More.size HX1; (try simp at hz1); have hb1 := hb1; rw [H1.out]) | (go_at_call 89; refine (impl_NatOk _ x.2 _ (Ty.at_more HD.out mC) (by rw [← HN2.out]; omega)).mono ?_; rintro e w2 ⟨rfl, hb2⟩; have HX2 : More (w.alloc (.cells #[.bool b, .slice a1 n1 c1, .slice a2 n2 c2] 26)) w2 := mC; have HB2 := HB _ HX2; have hz2 := More.size HX2; (try simp at hz2); have hb2 := hb2; rw [H2.out]))
    go_ret
    exact ⟨ret_bool (Bool.eq_false_iff.2 (fun k => by have := (ratOk_parts k).2.1; rw [H2.out] at this; cases this)).symm, mC⟩
  have H2 := Lib.hid h2; clear h2
  by_cases z2 : n2 = 0
  · subst z2
    have HX : More (w.alloc (.cells #[.bool b, .slice a1 n1 c1, .slice a2 0 c2] 26)) (w.alloc (.cells #[.bool b, .slice a1 n1 c1, .slice a2 0 c2] 26)) := More.refl _
    have HB : ∀ w', More (w.alloc (.cells #[.bool b, .slice a1 n1 c1, .slice a2 0 c2] 26)) w' → w'.cell? ⟨w.heap.size, 0, none⟩ = some (.bool b) ∧ w'.cell? ⟨w.heap.size, 1, none⟩ = some (.slice a1 n1 c1) ∧ w'.cell? ⟨w.heap.size, 2, none⟩ = some (.slice a2 0 c2) ∧ (∀ j, w'.frozen? ⟨w.heap.size, j, none⟩ = false) := fun w' h => ⟨box_new (by simp) h 0, box_new (by simp) h 1, box_new (by simp) h 2, fun j => box_free (by simp) h j⟩
    go_enter Tryz.func47, Tryz.ntmps47
    go_wp2_with (first | (go_at_call 86; refine (impl_BigIntOk _ _ x.1 _ HSB.out (Ty.at_more HM.out mC) (by rw [← HN1.out]; omega)).mono ?_; rintro e w1 ⟨rfl, hb1⟩; have HX1 : More (w.alloc (.cells #[.bool b, .slice a1 n1 c1, .slice a2 0 c2] 26)) w1 := mC; have HB1 := HB _ HX1; have hz1 := More.size HX1; (try simp at hz1); have hb1 := hb1; rw [H1.out]) | (go_at_call 89; refine (impl_NatOk _ x.2 _ (Ty.at_more HD.out mC) (by rw [← HN2.out]; omega)).mono ?_; rintro e w2 ⟨rfl, hb2⟩; have HX2 : More (w.alloc (.cells #[.bool b, .slice a1 n1 c1, .slice a2 0 c2] 26)) w2 := mC; have HB2 := HB _ HX2; have hz2 := More.size HX2; (try simp at hz2); have hb2 := hb2; rw [H2.out]))
    go_ret
    exact ⟨ret_bool (Bool.eq_false_iff.2 (fun k => (ratOk_parts k).2.2.1 HN2.out.symm)).symm, mC⟩
  have z2' : ((n2 : Int) == 0) = false := by simp [z2]
  by_cases l1 : 24 < n1
  · have l1' : (24 : Int) < (n1 : Int) := by omega
    have HX : More (w.alloc (.cells #[.bool b, .slice a1 n1 c1, .slice a2 n2 c2] 26)) (w.alloc (.cells #[.bool b, .slice a1 n1 c1, .slice a2 n2 c2] 26)) := More.refl _
    have HB : ∀ w', More (w.alloc (.cells #[.bool b, .slice a1 n1 c1, .slice a2 n2 c2] 26)) w' → w'.cell? ⟨w.heap.size, 0, none⟩ = some (.bool b) ∧ w'.cell? ⟨w.heap.size, 1, none⟩ = some (.slice a1 n1 c1) ∧ w'.cell? ⟨w.heap.size, 2, none⟩ = some (.slice a2 n2 c2) ∧ (∀ j, w'.frozen? ⟨w.heap.size, j, none⟩ = false) := fun w' h => ⟨box_new (by simp) h 0, box_new (by simp) h 1, box_new (by simp) h 2, fun j => box_free (by simp) h j⟩
    go_enter Tryz.func47, Tryz.ntmps47
    go_wp2_with (first | (go_at_call 86; refine (impl_BigIntOk _ _ x.1 _ HSB.out (Ty.at_more HM.out mC) (by rw [← HN1.out]; omega)).mono ?_; rintro e w1 ⟨rfl, hb1⟩; have HX1 : More (w.alloc (.cells #[.bool b, .slice a1 n1 c1, .slice a2 n2 c2] 26)) w1 := mC; have HB1 := HB _ HX1; have hz1 := More.size HX1; (try simp at hz1); have hb1 := hb1; rw [H1.out]) | (go_at_call 89; refine (impl_NatOk _ x.2 _ (Ty.at_more HD.out mC) (by rw [← HN2.out]; omega)).mono ?_; rintro e w2 ⟨rfl, hb2⟩; have HX2 : More (w.alloc (.cells #[.bool b, .slice a1 n1 c1, .slice a2 n2 c2] 26)) w2 := mC; have HB2 := HB _ HX2; have hz2 := More.size HX2; (try simp at hz2); have hb2 := hb2; rw [H2.out]))
    go_ret
    exact ⟨ret_bool (Bool.eq_false_iff.2 (fun k => by have := (ratOk_parts k).2.2.2.1; rw [← HN1.out] at this; omega)).symm, mC⟩
  have l1' : ¬ (24 : Int) < (n1 : Int) := by omega
  by_cases l2 : 24 < n2
  · have l2' : (24 : Int) < (n2 : Int) := by omega
    have HX : More (w.alloc (.cells #[.bool b, .slice a1 n1 c1, .slice a2 n2 c2] 26)) (w.alloc (.cells #[.bool b, .slice a1 n1 c1, .slice a2 n2 c2] 26)) := More.refl _
    have HB : ∀ w', More (w.alloc (.cells #[.bool b, .slice a1 n1 c1, .slice a2 n2 c2] 26)) w' → w'.cell? ⟨w.heap.size, 0, none⟩ = some (.bool b) ∧ w'.cell? ⟨w.heap.size, 1, none⟩ = some (.slice a1 n1 c1) ∧ w'.cell? ⟨w.heap.size, 2, none⟩ = some (.slice a2 n2 c2) ∧ (∀ j, w'.frozen? ⟨w.heap.size, j, none⟩ = false) := fun w' h => ⟨box_new (by simp) h 0, box_new (by simp) h 1, box_new (by simp) h 2, fun j => box_free (by simp) h j⟩
    go_enter Tryz.func47, Tryz.ntmps47
    go_wp2_with (first | (go_at_call 86; refine (impl_BigIntOk _ _ x.1 _ HSB.out (Ty.at_more HM.out mC) (by rw [← HN1.out]; omega)).mono ?_; rintro e w1 ⟨rfl, hb1⟩; have HX1 : More (w.alloc (.cells #[.bool b, .slice a1 n1 c1, .slice a2 n2 c2] 26)) w1 := mC; have HB1 := HB _ HX1; have hz1 := More.size HX1; (try simp at hz1); have hb1 := hb1; rw [H1.out]) | (go_at_call 89; refine (impl_NatOk _ x.2 _ (Ty.at_more HD.out mC) (by rw [← HN2.out]; omega)).mono ?_; rintro e w2 ⟨rfl, hb2⟩; have HX2 : More (w.alloc (.cells #[.bool b, .slice a1 n1 c1, .slice a2 n2 c2] 26)) w2 := mC; have HB2 := HB _ HX2; have hz2 := More.size HX2; (try simp at hz2); have hb2 := hb2; rw [H2.out]))
    go_ret
    exact ⟨ret_bool (Bool.eq_false_iff.2 (fun k => by have := (ratOk_parts k).2.2.2.2; rw [← HN2.out] at this; omega)).symm, mC⟩
  have l2' : ¬ (24 : Int) < (n2 : Int) := by omega
  obtain ⟨m, hm, hs, -⟩ := bigOk_out H1.out
  obtain ⟨-, d, hd⟩ := natOk_out H2.out
  have HMM : Hid (tInts.at w [.slice a1 n1 c1] (limbs m)) := Lib.hid (by rw [← hm]; exact HM.out)
  have HDD : Hid (tInts.at w [.slice a2 n2 c2] (limbs d)) := Lib.hid (by rw [← hd]; exact HD.out)
  have HLM : Hid ((limbs m).length ≤ 4000) := Lib.hid (by rw [← hm, ← HN1.out]; omega)
  have HLD : Hid ((limbs d).length ≤ 4000) := Lib.hid (by rw [← hd, ← HN2.out]; omega)
  have hd0 : d ≠ 0 := fun e => z2 (by rw [HN2.out, hd, e, limbs_zero]; rfl)
  have HRES : Hid (ratOkB x = decide (Nat.gcd m d = 1)) := Lib.hid (by
    have e : x = ((x.1.1, limbs m), limbs d) := by rw [← hm, ← hd]
    rw [e]
    exact ratOk_gcd hs hd0 (by rw [← hm, ← HN1.out]; omega) (by rw [← hd, ← HN2.out]; omega))
  clear hm hd hs hd0
  by_cases h1 : d = 1
  · have H3 : Hid (decide (d = 1) = true) := Lib.hid (decide_eq_true h1)
    have HR1 : Hid (ratOkB x = true) := Lib.hid (by rw [HRES.out, h1]; simp)
    clear h1
    have HX : More (w.alloc (.cells #[.bool b, .slice a1 n1 c1, .slice a2 n2 c2] 26)) (w.alloc (.cells #[.bool b, .slice a1 n1 c1, .slice a2 n2 c2] 26)) := More.refl _
    have HB : ∀ w', More (w.alloc (.cells #[.bool b, .slice a1 n1 c1, .slice a2 n2 c2] 26)) w' → w'.cell? ⟨w.heap.size, 0, none⟩ = some (.bool b) ∧ w'.cell? ⟨w.heap.size, 1, none⟩ = some (.slice a1 n1 c1) ∧ w'.cell? ⟨w.heap.size, 2, none⟩ = some (.slice a2 n2 c2) ∧ (∀ j, w'.frozen? ⟨w.heap.size, j, none⟩ = false) := fun w' h => ⟨box_new (by simp) h 0, box_new (by simp) h 1, box_new (by simp) h 2, fun j => box_free (by simp) h j⟩
    go_enter Tryz.func47, Tryz.ntmps47
    go_wp2_with (first | (go_at_call 86; refine (impl_BigIntOk _ _ x.1 _ HSB.out (Ty.at_more HM.out mC) (by rw [← HN1.out]; omega)).mono ?_; rintro e w1 ⟨rfl, hb1⟩; have HX1 : More (w.alloc (.cells #[.bool b, .slice a1 n1 c1, .slice a2 n2 c2] 26)) w1 := mC; have HB1 := HB _ HX1; have hz1 := More.size HX1; (try simp at hz1); have hb1 := hb1; rw [H1.out]) | (go_at_call 89; refine (impl_NatOk _ x.2 _ (Ty.at_more HD.out mC) (by rw [← HN2.out]; omega)).mono ?_; rintro e w2 ⟨rfl, hb2⟩; have HX2 : More (w.alloc (.cells #[.bool b, .slice a1 n1 c1, .slice a2 n2 c2] 26)) w2 := mC; have HB2 := HB _ HX2; have hz2 := More.size HX2; (try simp at hz2); have hb2 := hb2; rw [H2.out]) | (go_at_call 64; (with_reducible refine (impl_isOne (.slice a2 n2 c2) d _ (Ty.at_more HDD.out mC)).mono ?_); rintro e w3 ⟨rfl, hb3⟩; have HX3 : More (w.alloc (.cells #[.bool b, .slice a1 n1 c1, .slice a2 n2 c2] 26)) w3 := mC; have HB3 := HB _ HX3; have hz3 := More.size HX3; (try simp at hz3); have hb3 := hb3; rw [H3.out]))
    go_ret
    exact ⟨ret_bool HR1.out.symm, mC⟩
  have H3 : Hid (decide (d = 1) = false) := Lib.hid (decide_eq_false h1)
  clear h1
  have HX : More (w.alloc (.cells #[.bool b, .slice a1 n1 c1, .slice a2 n2 c2] 26)) (w.alloc (.cells #[.bool b, .slice a1 n1 c1, .slice a2 n2 c2] 26)) := More.refl _
  have HB : ∀ w', More (w.alloc (.cells #[.bool b, .slice a1 n1 c1, .slice a2 n2 c2] 26)) w' → w'.cell? ⟨w.heap.size, 0, none⟩ = some (.bool b) ∧ w'.cell? ⟨w.heap.size, 1, none⟩ = some (.slice a1 n1 c1) ∧ w'.cell? ⟨w.heap.size, 2, none⟩ = some (.slice a2 n2 c2) ∧ (∀ j, w'.frozen? ⟨w.heap.size, j, none⟩ = false) := fun w' h => ⟨box_new (by simp) h 0, box_new (by simp) h 1, box_new (by simp) h 2, fun j => box_free (by simp) h j⟩
  go_enter Tryz.func47, Tryz.ntmps47
  go_wp2_with (first | (go_at_call 86; refine (impl_BigIntOk _ _ x.1 _ HSB.out (Ty.at_more HM.out mC) (by rw [← HN1.out]; omega)).mono ?_; rintro e w1 ⟨rfl, hb1⟩; have HX1 : More (w.alloc (.cells #[.bool b, .slice a1 n1 c1, .slice a2 n2 c2] 26)) w1 := mC; have HB1 := HB _ HX1; have hz1 := More.size HX1; (try simp at hz1); have hb1 := hb1; rw [H1.out]) | (go_at_call 89; refine (impl_NatOk _ x.2 _ (Ty.at_more HD.out mC) (by rw [← HN2.out]; omega)).mono ?_; rintro e w2 ⟨rfl, hb2⟩; have HX2 : More (w.alloc (.cells #[.bool b, .slice a1 n1 c1, .slice a2 n2 c2] 26)) w2 := mC; have HB2 := HB _ HX2; have hz2 := More.size HX2; (try simp at hz2); have hb2 := hb2; rw [H2.out]) | (go_at_call 64; (with_reducible refine (impl_isOne (.slice a2 n2 c2) d _ (Ty.at_more HDD.out mC)).mono ?_); rintro e w3 ⟨rfl, hb3⟩; have HX3 : More (w.alloc (.cells #[.bool b, .slice a1 n1 c1, .slice a2 n2 c2] 26)) w3 := mC; have HB3 := HB _ HX3; have hz3 := More.size HX3; (try simp at hz3); have hb3 := hb3; rw [H3.out]) | (go_at_call 90; refine (impl_natGcd _ _ m d _ (Ty.at_more HMM.out mC) (Ty.at_more HDD.out mC) HLM.out HLD.out).mono ?_; rintro e w4 ⟨u4, rfl, hb4, g4⟩; obtain ⟨ga, gn, gc, rfl⟩ := sh1 g4; have G4 := Lib.hid g4; clear g4; have HX4 : More (w.alloc (.cells #[.bool b, .slice a1 n1 c1, .slice a2 n2 c2] 26)) w4 := mC; have HB4 := HB _ HX4; have hz4 := More.size HX4; (try simp at hz4); have hb4 := hb4) | (go_at_call 64; (with_reducible refine (impl_isOne (.slice ga gn gc) (Nat.gcd m d) _ (Ty.at_more G4.out mC)).mono ?_); rintro e w5 ⟨rfl, hb5⟩; have HX5 : More (w.alloc (.cells #[.bool b, .slice a1 n1 c1, .slice a2 n2 c2] 26)) w5 := mC; have HB5 := HB _ HX5; have hz5 := More.size HX5; (try simp at hz5); have hb5 := hb5))
  go_ret
  exact ⟨ret_bool HRES.out.symm, mC⟩
set_option maxRecDepth 4000 in
set_option maxHeartbeats 3200000 in
theorem spec_RatOk (b : Bool) (u v : Value) (x : QR) (w : World) (h : tRat.at w [.bool b, u, v] x) (hl : wRat x ≤ 1048576) :
    Calls Tryz.prog 80 #[.agg #[.bool b, u, v]] w fun e w' => e = .returned (.bool (ratOkB x)) ∧ More w w' := by
  obtain ⟨hsb, hm, hd⟩ := rat_split h
  obtain ⟨a1, c1, rfl⟩ := sl_len hm
  obtain ⟨a2, c2, rfl⟩ := sl_len hd
  have HM := Lib.hid hm; have HD := Lib.hid hd; have HSB := Lib.hid hsb; clear h hm hd hsb
  have hl1 : x.1.2.length ≤ 1048576 := by unfold wRat wBigInt wIntS at hl; omega
  have hl2 : x.2.length ≤ 1048576 := by unfold wRat wBigInt wIntS at hl; omega
  clear hl
  obtain ⟨n1, hn1⟩ : ∃ n, n = x.1.2.length := ⟨_, rfl⟩
  obtain ⟨n2, hn2⟩ : ∃ n, n = x.2.length := ⟨_, rfl⟩
  rw [← hn1] at HM hl1 ⊢
  rw [← hn2] at HD hl2 ⊢
  have HN1 := Lib.hid hn1; have HN2 := Lib.hid hn2; clear hn1 hn2
  rcases Bool.eq_false_or_eq_true (bigOkB x.1) with h1 | h1
  rotate_left
  · have H1 := Lib.hid h1; clear h1
    have HX : More (w.alloc (.cells #[.bool b, .slice a1 n1 c1, .slice a2 n2 c2] 26)) (w.alloc (.cells #[.bool b, .slice a1 n1 c1, .slice a2 n2 c2] 26)) := More.refl _
    have HB : ∀ w', More (w.alloc (.cells #[.bool b, .slice a1 n1 c1, .slice a2 n2 c2] 26)) w' → w'.cell? ⟨w.heap.size, 0, none⟩ = some (.bool b) ∧ w'.cell? ⟨w.heap.size, 1, none⟩ = some (.slice a1 n1 c1) ∧ w'.cell? ⟨w.heap.size, 2, none⟩ = some (.slice a2 n2 c2) ∧ (∀ j, w'.frozen? ⟨w.heap.size, j, none⟩ = false) := fun w' h => ⟨box_new (by simp) h 0, box_new (by simp) h 1, box_new (by simp) h 2, fun j => box_free (by simp) h j⟩
    go_enter Tryz.func80, Tryz.ntmps80
    go_wp2_with (first | (go_at_call 111; refine (spec_BigIntOk _ _ x.1 _ HSB.out (Ty.at_more HM.out mC) (by rw [← HN1.out]; omega)).mono ?_; rintro e w1 ⟨rfl, hb1⟩; have HX1 : More (w.alloc (.cells #[.bool b, .slice a1 n1 c1, .slice a2 n2 c2] 26)) w1 := mC; have HB1 := HB _ HX1; have hz1 := More.size HX1; (try simp at hz1); have hb1 := hb1; rw [H1.out]))
    go_ret
    exact ⟨ret_bool (Bool.eq_false_iff.2 (fun k => by have := (ratOk_parts k).1; rw [H1.out] at this; cases this)).symm, mC⟩
  have H1 := Lib.hid h1; clear h1
  rcases Bool.eq_false_or_eq_true (natOkB x.2) with h2 | h2
  rotate_left
  · have H2 := Lib.hid h2; clear h2
    have HX : More (w.alloc (.cells #[.bool b, .slice a1 n1 c1, .slice a2 n2 c2] 26)) (w.alloc (.cells #[.bool b, .slice a1 n1 c1, .slice a2 n2 c2] 26)) := More.refl _
    have HB : ∀ w', More (w.alloc (.cells #[.bool b, .slice a1 n1 c1, .slice a2 n2 c2] 26)) w' → w'.cell? ⟨w.heap.size, 0, none⟩ = some (.bool b) ∧ w'.cell? ⟨w.heap.size, 1, none⟩ = some (.slice a1 n1 c1) ∧ w'.cell? ⟨w.heap.size, 2, none⟩ = some (.slice a2 n2 c2) ∧ (∀ j, w'.frozen? ⟨w.heap.size, j, none⟩ = false) := fun w' h => ⟨box_new (by simp) h 0, box_new (by simp) h 1, box_new (by simp) h 2, fun j => box_free (by simp) h j⟩
    go_enter Tryz.func80, Tryz.ntmps80
    go_wp2_with (first | (go_at_call 111; refine (spec_BigIntOk _ _ x.1 _ HSB.out (Ty.at_more HM.out mC) (by rw [← HN1.out]; omega)).mono ?_; rintro e w1 ⟨rfl, hb1⟩; have HX1 : More (w.alloc (.cells #[.bool b, .slice a1 n1 c1, .slice a2 n2 c2] 26)) w1 := mC; have HB1 := HB _ HX1; have hz1 := More.size HX1; (try simp at hz1); have hb1 := hb1; rw [H1.out]) | (go_at_call 112; refine (spec_NatOk _ x.2 _ (Ty.at_more HD.out mC) (by rw [← HN2.out]; omega)).mono ?_; rintro e w2 ⟨rfl, hb2⟩; have HX2 : More (w.alloc (.cells #[.bool b, .slice a1 n1 c1, .slice a2 n2 c2] 26)) w2 := mC; have HB2 := HB _ HX2; have hz2 := More.size HX2; (try simp at hz2); have hb2 := hb2; rw [H2.out]))
    go_ret
    exact ⟨ret_bool (Bool.eq_false_iff.2 (fun k => by have := (ratOk_parts k).2.1; rw [H2.out] at this; cases this)).symm, mC⟩
  have H2 := Lib.hid h2; clear h2
  by_cases z2 : n2 = 0
  · subst z2
    have HX : More (w.alloc (.cells #[.bool b, .slice a1 n1 c1, .slice a2 0 c2] 26)) (w.alloc (.cells #[.bool b, .slice a1 n1 c1, .slice a2 0 c2] 26)) := More.refl _
    have HB : ∀ w', More (w.alloc (.cells #[.bool b, .slice a1 n1 c1, .slice a2 0 c2] 26)) w' → w'.cell? ⟨w.heap.size, 0, none⟩ = some (.bool b) ∧ w'.cell? ⟨w.heap.size, 1, none⟩ = some (.slice a1 n1 c1) ∧ w'.cell? ⟨w.heap.size, 2, none⟩ = some (.slice a2 0 c2) ∧ (∀ j, w'.frozen? ⟨w.heap.size, j, none⟩ = false) := fun w' h => ⟨box_new (by simp) h 0, box_new (by simp) h 1, box_new (by simp) h 2, fun j => box_free (by simp) h j⟩
    go_enter Tryz.func80, Tryz.ntmps80
    go_wp2_with (first | (go_at_call 111; refine (spec_BigIntOk _ _ x.1 _ HSB.out (Ty.at_more HM.out mC) (by rw [← HN1.out]; omega)).mono ?_; rintro e w1 ⟨rfl, hb1⟩; have HX1 : More (w.alloc (.cells #[.bool b, .slice a1 n1 c1, .slice a2 0 c2] 26)) w1 := mC; have HB1 := HB _ HX1; have hz1 := More.size HX1; (try simp at hz1); have hb1 := hb1; rw [H1.out]) | (go_at_call 112; refine (spec_NatOk _ x.2 _ (Ty.at_more HD.out mC) (by rw [← HN2.out]; omega)).mono ?_; rintro e w2 ⟨rfl, hb2⟩; have HX2 : More (w.alloc (.cells #[.bool b, .slice a1 n1 c1, .slice a2 0 c2] 26)) w2 := mC; have HB2 := HB _ HX2; have hz2 := More.size HX2; (try simp at hz2); have hb2 := hb2; rw [H2.out]))
    go_ret
    exact ⟨ret_bool (Bool.eq_false_iff.2 (fun k => (ratOk_parts k).2.2.1 HN2.out.symm)).symm, mC⟩
  have z2' : ((n2 : Int) == 0) = false := by simp [z2]
  by_cases l2 : 24 < n2
  · have l2' : (24 : Int) < (n2 : Int) := by omega
    have HX : More (w.alloc (.cells #[.bool b, .slice a1 n1 c1, .slice a2 n2 c2] 26)) (w.alloc (.cells #[.bool b, .slice a1 n1 c1, .slice a2 n2 c2] 26)) := More.refl _
    have HB : ∀ w', More (w.alloc (.cells #[.bool b, .slice a1 n1 c1, .slice a2 n2 c2] 26)) w' → w'.cell? ⟨w.heap.size, 0, none⟩ = some (.bool b) ∧ w'.cell? ⟨w.heap.size, 1, none⟩ = some (.slice a1 n1 c1) ∧ w'.cell? ⟨w.heap.size, 2, none⟩ = some (.slice a2 n2 c2) ∧ (∀ j, w'.frozen? ⟨w.heap.size, j, none⟩ = false) := fun w' h => ⟨box_new (by simp) h 0, box_new (by simp) h 1, box_new (by simp) h 2, fun j => box_free (by simp) h j⟩
    go_enter Tryz.func80, Tryz.ntmps80
    go_wp2_with (first | (go_at_call 111; refine (spec_BigIntOk _ _ x.1 _ HSB.out (Ty.at_more HM.out mC) (by rw [← HN1.out]; omega)).mono ?_; rintro e w1 ⟨rfl, hb1⟩; have HX1 : More (w.alloc (.cells #[.bool b, .slice a1 n1 c1, .slice a2 n2 c2] 26)) w1 := mC; have HB1 := HB _ HX1; have hz1 := More.size HX1; (try simp at hz1); have hb1 := hb1; rw [H1.out]) | (go_at_call 112; refine (spec_NatOk _ x.2 _ (Ty.at_more HD.out mC) (by rw [← HN2.out]; omega)).mono ?_; rintro e w2 ⟨rfl, hb2⟩; have HX2 : More (w.alloc (.cells #[.bool b, .slice a1 n1 c1, .slice a2 n2 c2] 26)) w2 := mC; have HB2 := HB _ HX2; have hz2 := More.size HX2; (try simp at hz2); have hb2 := hb2; rw [H2.out]))
    go_ret
    exact ⟨ret_bool (Bool.eq_false_iff.2 (fun k => by have := (ratOk_parts k).2.2.2.2; rw [← HN2.out] at this; omega)).symm, mC⟩
  have l2' : ¬ (24 : Int) < (n2 : Int) := by omega
  by_cases l1 : 24 < n1
  · have l1' : (24 : Int) < (n1 : Int) := by omega
    have HX : More (w.alloc (.cells #[.bool b, .slice a1 n1 c1, .slice a2 n2 c2] 26)) (w.alloc (.cells #[.bool b, .slice a1 n1 c1, .slice a2 n2 c2] 26)) := More.refl _
    have HB : ∀ w', More (w.alloc (.cells #[.bool b, .slice a1 n1 c1, .slice a2 n2 c2] 26)) w' → w'.cell? ⟨w.heap.size, 0, none⟩ = some (.bool b) ∧ w'.cell? ⟨w.heap.size, 1, none⟩ = some (.slice a1 n1 c1) ∧ w'.cell? ⟨w.heap.size, 2, none⟩ = some (.slice a2 n2 c2) ∧ (∀ j, w'.frozen? ⟨w.heap.size, j, none⟩ = false) := fun w' h => ⟨box_new (by simp) h 0, box_new (by simp) h 1, box_new (by simp) h 2, fun j => box_free (by simp) h j⟩
    go_enter Tryz.func80, Tryz.ntmps80
    go_wp2_with (first | (go_at_call 111; refine (spec_BigIntOk _ _ x.1 _ HSB.out (Ty.at_more HM.out mC) (by rw [← HN1.out]; omega)).mono ?_; rintro e w1 ⟨rfl, hb1⟩; have HX1 : More (w.alloc (.cells #[.bool b, .slice a1 n1 c1, .slice a2 n2 c2] 26)) w1 := mC; have HB1 := HB _ HX1; have hz1 := More.size HX1; (try simp at hz1); have hb1 := hb1; rw [H1.out]) | (go_at_call 112; refine (spec_NatOk _ x.2 _ (Ty.at_more HD.out mC) (by rw [← HN2.out]; omega)).mono ?_; rintro e w2 ⟨rfl, hb2⟩; have HX2 : More (w.alloc (.cells #[.bool b, .slice a1 n1 c1, .slice a2 n2 c2] 26)) w2 := mC; have HB2 := HB _ HX2; have hz2 := More.size HX2; (try simp at hz2); have hb2 := hb2; rw [H2.out]))
    go_ret
    exact ⟨ret_bool (Bool.eq_false_iff.2 (fun k => by have := (ratOk_parts k).2.2.2.1; rw [← HN1.out] at this; omega)).symm, mC⟩
  have l1' : ¬ (24 : Int) < (n1 : Int) := by omega
  obtain ⟨m, hm, hs, -⟩ := bigOk_out H1.out
  obtain ⟨-, d, hd⟩ := natOk_out H2.out
  have HMM : Hid (tInts.at w [.slice a1 n1 c1] (limbs m)) := Lib.hid (by rw [← hm]; exact HM.out)
  have HDD : Hid (tInts.at w [.slice a2 n2 c2] (limbs d)) := Lib.hid (by rw [← hd]; exact HD.out)
  have HLM : Hid ((limbs m).length ≤ 4000) := Lib.hid (by rw [← hm, ← HN1.out]; omega)
  have HLD : Hid ((limbs d).length ≤ 4000) := Lib.hid (by rw [← hd, ← HN2.out]; omega)
  have hd0 : d ≠ 0 := fun e => z2 (by rw [HN2.out, hd, e, limbs_zero]; rfl)
  have HRES : Hid (ratOkB x = decide (Nat.gcd m d = 1)) := Lib.hid (by
    have e : x = ((x.1.1, limbs m), limbs d) := by rw [← hm, ← hd]
    rw [e]
    exact ratOk_gcd hs hd0 (by rw [← hm, ← HN1.out]; omega) (by rw [← hd, ← HN2.out]; omega))
  clear hm hd hs hd0
  have HX : More (w.alloc (.cells #[.bool b, .slice a1 n1 c1, .slice a2 n2 c2] 26)) (w.alloc (.cells #[.bool b, .slice a1 n1 c1, .slice a2 n2 c2] 26)) := More.refl _
  have HB : ∀ w', More (w.alloc (.cells #[.bool b, .slice a1 n1 c1, .slice a2 n2 c2] 26)) w' → w'.cell? ⟨w.heap.size, 0, none⟩ = some (.bool b) ∧ w'.cell? ⟨w.heap.size, 1, none⟩ = some (.slice a1 n1 c1) ∧ w'.cell? ⟨w.heap.size, 2, none⟩ = some (.slice a2 n2 c2) ∧ (∀ j, w'.frozen? ⟨w.heap.size, j, none⟩ = false) := fun w' h => ⟨box_new (by simp) h 0, box_new (by simp) h 1, box_new (by simp) h 2, fun j => box_free (by simp) h j⟩
  go_enter Tryz.func80, Tryz.ntmps80
  go_wp2_with (first | (go_at_call 111; refine (spec_BigIntOk _ _ x.1 _ HSB.out (Ty.at_more HM.out mC) (by rw [← HN1.out]; omega)).mono ?_; rintro e w1 ⟨rfl, hb1⟩; have HX1 : More (w.alloc (.cells #[.bool b, .slice a1 n1 c1, .slice a2 n2 c2] 26)) w1 := mC; have HB1 := HB _ HX1; have hz1 := More.size HX1; (try simp at hz1); have hb1 := hb1; rw [H1.out]) | (go_at_call 112; refine (spec_NatOk _ x.2 _ (Ty.at_more HD.out mC) (by rw [← HN2.out]; omega)).mono ?_; rintro e w2 ⟨rfl, hb2⟩; have HX2 : More (w.alloc (.cells #[.bool b, .slice a1 n1 c1, .slice a2 n2 c2] 26)) w2 := mC; have HB2 := HB _ HX2; have hz2 := More.size HX2; (try simp at hz2); have hb2 := hb2; rw [H2.out]) | (go_at_call 113; refine (spec_l02Gcd _ _ m d _ (Ty.at_more HMM.out mC) (Ty.at_more HDD.out mC) HLM.out HLD.out).mono ?_; rintro e w4 ⟨u4, rfl, hb4, g4⟩; obtain ⟨ga, gn, gc, rfl⟩ := sh1 g4; have G4 := Lib.hid g4; clear g4; have HX4 : More (w.alloc (.cells #[.bool b, .slice a1 n1 c1, .slice a2 n2 c2] 26)) w4 := mC; have HB4 := HB _ HX4; have hz4 := More.size HX4; (try simp at hz4); have hb4 := hb4) | (go_at_call 81; (with_reducible refine (spec_l04One (.slice ga gn gc) (Nat.gcd m d) _ (Ty.at_more G4.out mC)).mono ?_); rintro e w5 ⟨rfl, hb5⟩; have HX5 : More (w.alloc (.cells #[.bool b, .slice a1 n1 c1, .slice a2 n2 c2] 26)) w5 := mC; have HB5 := HB _ HX5; have hz5 := More.size HX5; (try simp at hz5); have hb5 := hb5))
  go_ret
  exact ⟨ret_bool HRES.out.symm, mC⟩
end Go.Proofs.YtnbefpfijaimjaaGreatDoor
/- Comparing fractions: the program's and the reference's. -/
namespace Go.Proofs.YtnbefpfijaimjaaGreatDoor
open Go.RowKit
open Classical in
/-- The fraction that a value is; nothing where it is none. -/
noncomputable def frOf (x : QR) : Fr := if h : ∃ f, Good f ∧ x = encR f then Classical.choose h else (0, 0)
theorem frOf_good {f : Fr} (h : Good f) : frOf (encR f) = f := by
  have he : ∃ g, Good g ∧ encR f = encR g := ⟨f, h, rfl⟩
  unfold frOf
  rw [dif_pos he]
  exact (encR_inj (Classical.choose_spec he).2).symm
theorem ratOk_zero : ratOkB (encR (0, 0)) = false := by
  refine Bool.eq_false_iff.2 (fun h => ?_)
  exact (ratOk_parts h).2.2.1 (by show (limbs 0).length = 0; rw [limbs_zero]; rfl)
theorem frOf_bad {x : QR} (h : ratOkB x = false) : frOf x = (0, 0) := by
  unfold frOf
  rw [dif_neg (fun k => by rw [ratOk_iff.2 k] at h; cases h)]
theorem frOf_vd (x : QR) : Vd (frOf x) := by
  by_cases h : ∃ f, Good f ∧ x = encR f
  · unfold frOf
    rw [dif_pos h]
    exact .inr (Classical.choose_spec h).1
  · unfold frOf
    rw [dif_neg h]
    exact .inl rfl
theorem frOf_enc {f : Fr} (h : Vd f) : frOf (encR f) = f := by
  rcases h with rfl | h
  · exact frOf_bad ratOk_zero
  · exact frOf_good h
theorem enc_frOf {x : QR} (h : ratOkB x = true) : encR (frOf x) = x := by
  obtain ⟨f, h1, rfl⟩ := ratOk_fr h
  rw [frOf_good h1]
theorem ratOk_frOf (x : QR) : ratOkB x = decide ((frOf x).2 ≠ 0) := by
  rcases Bool.eq_false_or_eq_true (ratOkB x) with h | h
  · obtain ⟨f, h1, rfl⟩ := ratOk_fr h
    rw [h, frOf_good h1, decide_eq_true h1.1]
  · rw [h, frOf_bad h]
    rfl
theorem frOf_at {w : World} {b : Bool} {u v : Value} {x : QR} (h : tRat.at w [.bool b, u, v] x) (hx : ratOkB x = true) : decide ((frOf x).1 < 0) = b ∧ RatAt w (frOf x) u v := RatAt.of (by rw [enc_frOf hx]; exact h)
theorem spec_l03MakeZ (z : Int) (s : Bool) (v : Value) (w : World) (hs : sgn s z.natAbs = z) (hv : tInts.at w [v] (limbs z.natAbs)) (hl : (limbs z.natAbs).length ≤ 60) :
    Calls Tryz.prog 128 #[.bool s, v] w fun e w' => ∃ u, e = .returned (.agg #[.bool (decide (z < 0)), u]) ∧ More w w' ∧ tInts.fresh w.heap.size w' [u] (limbs z.natAbs) := by
  have h := spec_l03Make s v z.natAbs w hv hl
  rw [hs] at h
  exact h
theorem sgn_mulN {z : Int} {s : Bool} (h : decide (z < 0) = s) (d : Nat) : sgn s (z * (d : Int)).natAbs = z * (d : Int) := by
  rw [Int.natAbs_mul, Int.natAbs_natCast, ← h]
  conv => rhs; rw [← sgn_self z]
  unfold sgn
  split <;> simp [Int.neg_mul]
theorem at_mulZ {w : World} {v : Value} {z : Int} {d : Nat} (h : tInts.at w [v] (limbs (z.natAbs * d))) : tInts.at w [v] (limbs (z * (d : Int)).natAbs) := by rw [Int.natAbs_mul, Int.natAbs_natCast]; exact h
end Go.Proofs.YtnbefpfijaimjaaGreatDoor
