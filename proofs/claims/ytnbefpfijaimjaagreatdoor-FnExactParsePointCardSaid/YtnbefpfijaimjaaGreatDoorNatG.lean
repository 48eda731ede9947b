/- Natural numbers as limbs: whether a list is one; the greatest common divisor: the program's and the reference's. -/
import Derived.Test.YtnbefpfijaimjaaGreatDoorNatF
import Derived.Test.YtnbefpfijaimjaaGreatDoorGVec
import Derived.Test.YtnbefpfijaimjaaGreatDoorGNum
namespace Go.Proofs.YtnbefpfijaimjaaGreatDoor
open Go.RowKit
theorem natOk_iff {l : List Int} : natOkB l = true ↔ l.length ≤ 60 ∧ Can l := by unfold natOkB; simp
theorem natOk_not {l : List Int} (h : ¬ (l.length ≤ 60 ∧ Can l)) : natOkB l = false := Bool.eq_false_iff.2 (fun k => h (natOk_iff.1 k))
def badL (x : Int) : Bool := !inR x 0 999999999
theorem badL_any {l : List Int} : l.any badL = false ↔ IsL l := by
  rw [List.any_eq_false]
  constructor
  · intro h d hd
    have := h d hd
    simp [badL, inR_iff] at this
    omega
  · intro h d hd
    have := h d hd
    simp [badL, inR_iff]
    omega
theorem natOk_long {l : List Int} (h : 60 < l.length) : natOkB l = false := by
  exact natOk_not (fun k => by omega)
theorem natOk_bad {l : List Int} (h : l.any badL = true) : natOkB l = false := by
  refine natOk_not (fun k => ?_)
  rw [badL_any.2 k.2.1] at h
  cases h
theorem natOk_nil : natOkB [] = true := by
  exact natOk_iff.2 ⟨by simp, Can.nil⟩
theorem natOk_last {l : List Int} (h : l.length ≤ 60) (hb : l.any badL = false) {x : Int} (hx : l[l.length - 1]? = some x) : natOkB l = !(x == 0) := by
  have hl := badL_any.1 hb
  rcases List.eq_nil_or_concat l with rfl | ⟨a, d, rfl⟩
  · simp at hx
  · simp at hx
    subst hx
    rw [List.concat_eq_append] at hl h ⊢
    by_cases hd : d = 0
    · subst hd
      simp only [beq_self_eq_true, Bool.not_true]
      exact natOk_not (fun k => ((can_iff_last hl).1 k.2) rfl)
    · have : (d == 0) = false := by simp [hd]
      rw [this]
      exact natOk_iff.2 ⟨h, (can_iff_last hl).2 hd⟩
theorem natOk_limbs {n : Nat} (h : (limbs n).length ≤ 60) : natOkB (limbs n) = true := by
  exact natOk_iff.2 ⟨h, limbs_can n⟩
theorem natOk_out {l : List Int} (h : natOkB l = true) : l.length ≤ 60 ∧ ∃ n, l = limbs n := by
  have := natOk_iff.1 h
  exact ⟨this.1, _, can_of this.2⟩
theorem impl_natOk1 (x : Int) (w : World) : Calls Tryz.prog 123 #[.int .i64 x] w fun e w' => e = .returned (.bool (badL x)) ∧ More w w' := by
  rcases Bool.eq_false_or_eq_true (inR x 0 999999999) with a | a
  all_goals
    have HA := Lib.hid a
    go_enter Tryz.func123, Tryz.ntmps123
    go_wp2_with (go_at_call 69; refine (impl_within _ _ _ _).mono ?_; rintro e w1 ⟨rfl, hb1⟩; rw [HA.out])
    go_ret
    exact ⟨ret_bool (by simp [badL, HA.out]), mC⟩
set_option maxHeartbeats 1600000 in
theorem indexFunc_natOk (v : Value) (l : List Int) (w : World)  (hv : tInts.at w [v] l) (hl : l.length ≤ 1048576) :
    Calls Tryz.prog 156 #[v, .func (.func 123) #[] #[]] w fun e w' => e = .returned (.int .i64 (idxI badL l)) ∧ More w w' := by
  obtain ⟨ao, cap, rfl⟩ := sl_len hv
  have HV := Lib.hid hv; clear hv
  skip
  skip
  skip
  obtain ⟨n, hn⟩ : ∃ n, n = l.length := ⟨_, rfl⟩
  rw [← hn] at HV hl ⊢
  have HN := Lib.hid hn; clear hn
  go_enter Tryz.func156, Tryz.ntmps156
  go_wp2_with fail
  go_loopw [8] (fun i wr => ∃ k : Nat, k ≤ n ∧ i = .int .i64 k ∧ More w wr ∧ Hid (∀ (i : Nat) y, i < k → l[i]? = some y → badL y = false)) (fun i _ => n - (intOf i).toNat)
  case atStart => exact ⟨0, Nat.zero_le _, rfl, More.refl _, Lib.hid (fun i y hi => by omega)⟩
  case round =>
    obtain ⟨k, hk, rfl, hm, HB⟩ := hrel
    by_cases hlt : k < n
    · obtain ⟨b, off, x, rfl, hblt, hx, ox, c0⟩ := int_el (Ty.at_more HV.out hm) (k := k) (by rw [← HN.out]; exact hlt)
      have HX := Lib.hid hx; clear hx ox
      rcases Bool.eq_false_or_eq_true (badL x) with hd | hd
      all_goals
        have HD := Lib.hid hd
        go_wp2_with fail
        refine (impl_natOk1 x _).mono ?_
        rintro e w1 ⟨rfl, hb1⟩
        rw [HD.out]
        go_wp2_with fail
      · go_ret
        exact ⟨ret_int (idxI_found HB.out HX.out HD.out).symm, mC⟩
      · go_roundw
        case rel => exact ⟨k + 1, by omega, by go_num, mC, Lib.hid (fun i z hi hz => by
          rcases Nat.lt_succ_iff_lt_or_eq.1 hi with h | rfl
          · exact HB.out i z h hz
          · rw [HX.out] at hz; cases hz; exact HD.out)⟩
        case measure => simp [intOf]; omega
    · go_wp2_with fail
      go_ret
      exact ⟨ret_int (idxI_none (fun i z hz => HB.out i z (by have := (List.getElem?_eq_some_iff.1 hz).1; have := HN.out; omega) hz)).symm, hm⟩
set_option maxHeartbeats 800000 in
theorem containsFunc_natOk (v : Value) (l : List Int) (w : World)  (hv : tInts.at w [v] l) (hl : l.length ≤ 1048576) :
    Calls Tryz.prog 122 #[v, .func (.func 123) #[] #[]] w fun e w' => e = .returned (.bool (l.any badL)) ∧ More w w' := by
  have C := Lib.hid (indexFunc_natOk v l w  hv hl)
  clear hv hl 
  go_enter Tryz.func122, Tryz.ntmps122
  go_wp2_with (go_at_call 156; refine C.out.mono ?_; rintro e w1 ⟨rfl, hb1⟩)
  go_ret
  exact ⟨ret_bool idxI_nonneg, mC⟩
set_option maxHeartbeats 1600000 in
theorem impl_NatOk (v : Value) (l : List Int) (w : World) (hv : tInts.at w [v] l) (hl : l.length ≤ 1048576) :
    Calls Tryz.prog 89 #[v] w fun e w' => e = .returned (.bool (natOkB l)) ∧ More w w' := by
  obtain ⟨ao, cap, rfl⟩ := sl_len hv
  have HV := Lib.hid hv; clear hv
  obtain ⟨n, hn⟩ : ∃ n, n = l.length := ⟨_, rfl⟩
  rw [← hn] at HV hl ⊢
  have HN := Lib.hid hn; clear hn
  by_cases h60 : 60 < n
  · have h60' : (60 : Int) < (n : Int) := by omega
    go_enter Tryz.func89, Tryz.ntmps89
    go_wp2_with fail
    go_ret
    exact ⟨ret_bool (natOk_long (by rw [← HN.out]; exact h60)).symm, mC⟩
  have h60' : ¬ (60 : Int) < (n : Int) := by omega
  rcases Bool.eq_false_or_eq_true (l.any badL) with hb | hb
  · have HB := Lib.hid hb; clear hb
    go_enter Tryz.func89, Tryz.ntmps89
    go_wp2_with (go_at_call 122; refine (containsFunc_natOk _ l _ (Ty.at_more HV.out mC) (by rw [← HN.out]; exact hl)).mono ?_; rintro e w1 ⟨rfl, hb1⟩; rw [HB.out])
    go_ret
    exact ⟨ret_bool (natOk_bad HB.out).symm, mC⟩
  have HB := Lib.hid hb; clear hb
  by_cases h0 : n = 0
  · subst h0
    go_enter Tryz.func89, Tryz.ntmps89
    go_wp2_with (go_at_call 122; refine (containsFunc_natOk _ l _ (Ty.at_more HV.out mC) (by rw [← HN.out]; exact hl)).mono ?_; rintro e w1 ⟨rfl, hb1⟩; rw [HB.out])
    go_ret
    exact ⟨ret_bool (by rw [List.eq_nil_of_length_eq_zero HN.out.symm, natOk_nil]), mC⟩
  · obtain ⟨p, hp⟩ : ∃ p, n = p + 1 := ⟨n - 1, by omega⟩
    have hwk : IntKind.i64.wrap ((n : Int) - 1) = (p : Int) := by rw [show (n : Int) - 1 = (p : Int) by omega]; exact IntWalk.i64_in _ (by omega)
    have hp0 : (0 : Int) ≤ (p : Int) := by omega
    have hp1 : (p : Int) < (n : Int) := by omega
    have h0' : ((n : Int) == 0) = false := by simp [h0]
    obtain ⟨b, off, x, rfl, hblt, hx, -, c0⟩ := int_el HV.out (k := p) (by rw [← HN.out]; omega)
    have HX : Hid (l[l.length - 1]? = some x) := Lib.hid (by rw [← HN.out, hp]; exact hx)
    clear hx
    have HP := Lib.hid hp; clear hp
    rcases Bool.eq_false_or_eq_true (x == 0) with hz | hz
    all_goals
      have HZ := Lib.hid hz
      go_enter Tryz.func89, Tryz.ntmps89
      go_wp2_with (go_at_call 122; refine (containsFunc_natOk _ l _ (Ty.at_more HV.out mC) (by rw [← HN.out]; exact hl)).mono ?_; rintro e w1 ⟨rfl, hb1⟩; rw [HB.out]; have c1 := box_keep hb1 hblt c0)
      go_ret
      exact ⟨ret_bool (by rw [natOk_last (by rw [← HN.out]; omega) HB.out HX.out]; simp [bne, HZ.out]), mC⟩
set_option maxHeartbeats 1600000 in
theorem spec_NatOk (v : Value) (l : List Int) (w : World) (hv : tInts.at w [v] l) (hl : l.length ≤ 1048576) :
    Calls Tryz.prog 112 #[v] w fun e w' => e = .returned (.bool (natOkB l)) ∧ More w w' := by
  obtain ⟨ao, cap, rfl⟩ := sl_len hv
  have HV := Lib.hid hv; clear hv
  obtain ⟨n, hn⟩ : ∃ n, n = l.length := ⟨_, rfl⟩
  rw [← hn] at HV hl ⊢
  have HN := Lib.hid hn; clear hn
  go_enter Tryz.func112, Tryz.ntmps112
  go_wp2_with fail
  go_loopw [7] (fun i wr => ∃ k : Nat, k ≤ n ∧ i = .int .i64 k ∧ More w wr ∧ Hid (∀ (i : Nat) y, i < k → l[i]? = some y → badL y = false)) (fun i _ => n - (intOf i).toNat)
  case atStart => exact ⟨0, Nat.zero_le _, rfl, More.refl _, Lib.hid (fun i y hi => by omega)⟩
  case round =>
    obtain ⟨k, hk, rfl, hm, HB⟩ := hrel
    by_cases hlt : k < n
    · obtain ⟨b, off, x, rfl, hblt, hx, ox, c0⟩ := int_el (Ty.at_more HV.out hm) (k := k) (by rw [← HN.out]; exact hlt)
      have HX := Lib.hid hx; clear hx ox
      rcases Bool.eq_false_or_eq_true (inR x 0 999999999) with hd | hd
      all_goals
        have HD := Lib.hid hd
        go_wp2_with (go_at_call 149; refine (spec_l01In _ _ _ _).mono ?_; rintro e w1 ⟨rfl, hb1⟩; rw [HD.out])
      · go_roundw
        case rel => exact ⟨k + 1, by omega, by go_num, mC, Lib.hid (fun i z hi hz => by
          rcases Nat.lt_succ_iff_lt_or_eq.1 hi with h | rfl
          · exact HB.out i z h hz
          · rw [HX.out] at hz; cases hz; simp [badL, HD.out])⟩
        case measure => simp [intOf]; omega
      · go_ret
        exact ⟨ret_bool (natOk_bad (List.any_eq_true.2 ⟨x, List.mem_of_getElem? HX.out, by simp [badL, HD.out]⟩)).symm, mC⟩
    · have hkn : k = n := by omega
      subst hkn
      have HA : Hid (l.any badL = false) := Lib.hid (by
        rw [List.any_eq_false]
        intro y hy
        obtain ⟨i, hi⟩ := List.mem_iff_getElem?.1 hy
        rw [HB.out i y (by have := (List.getElem?_eq_some_iff.1 hi).1; rw [HN.out]; exact this) hi]
        decide)
      by_cases h60 : 60 < k
      · have h60' : ¬ (k : Int) ≤ 60 := by omega
        go_wp2_with fail
        go_ret
        exact ⟨ret_bool (natOk_long (by rw [← HN.out]; exact h60)).symm, mC⟩
      have h60' : (k : Int) ≤ 60 := by omega
      by_cases h0 : k = 0
      · subst h0
        go_wp2_with fail
        go_ret
        exact ⟨ret_bool (by rw [List.eq_nil_of_length_eq_zero HN.out.symm, natOk_nil]), mC⟩
      · obtain ⟨p, hp⟩ : ∃ p, k = p + 1 := ⟨k - 1, by omega⟩
        have hwk : IntKind.i64.wrap ((k : Int) - 1) = (p : Int) := by rw [show (k : Int) - 1 = (p : Int) by omega]; exact IntWalk.i64_in _ (by omega)
        have hp0 : (0 : Int) ≤ (p : Int) := by omega
        have hp1 : (p : Int) < (k : Int) := by omega
        have h0' : ((k : Int) == 0) = false := by simp [h0]
        obtain ⟨b, off, x, rfl, hblt, hx, -, c0⟩ := int_el (Ty.at_more HV.out hm) (k := p) (by rw [← HN.out]; omega)
        have HX : Hid (l[l.length - 1]? = some x) := Lib.hid (by rw [← HN.out, hp]; exact hx)
        clear hx
        have HP := Lib.hid hp; clear hp
        rcases Bool.eq_false_or_eq_true (x == 0) with hz | hz
        all_goals
          have HZ := Lib.hid hz
          go_wp2_with fail
          go_ret
          exact ⟨ret_bool (by rw [natOk_last (by rw [← HN.out]; omega) HA.out HX.out]; simp [bne, HZ.out]), mC⟩
/-! ### What a slice of limbs is the number of -/
theorem ints_inj {w : World} {v : Value} {l m : List Int} (h : tInts.at w [v] l) (k : tInts.at w [v] m) : l = m := by
  obtain ⟨ao, cap, rfl⟩ := sl_len h
  obtain ⟨ao', cap', e⟩ := sl_len k
  simp at e
  obtain ⟨rfl, hl, rfl⟩ := e
  rw [hl] at h
  apply List.ext_getElem?
  intro i
  by_cases hi : i < m.length
  · obtain ⟨b, off, x, e1, _, hx, _, c0⟩ := int_el h (k := i) (by omega)
    obtain ⟨b', off', y, e2, _, hy, _, d0⟩ := int_el k (k := i) hi
    rw [e1] at e2
    simp at e2
    obtain ⟨rfl, rfl⟩ := e2
    rw [c0] at d0
    simp at d0
    rw [hx, hy, d0]
  · rw [List.getElem?_eq_none (by omega), List.getElem?_eq_none (by omega)]
open Classical in
noncomputable def natIn (w : World) (v : Value) : Nat := if h : ∃ y, tInts.at w [v] (limbs y) then Classical.choose h else 0
theorem natIn_eq {w : World} {v : Value} {y : Nat} (h : tInts.at w [v] (limbs y)) : natIn w v = y := by
  have he : ∃ y, tInts.at w [v] (limbs y) := ⟨y, h⟩
  unfold natIn
  rw [dif_pos he]
  exact limbs_inj (ints_inj (Classical.choose_spec he) h)
theorem limbs1_lt {y : Nat} (h : (limbs y).length ≤ 1) : y < 1000000000 := by
  have h2 := limbs_len_le (n := y) (k := 1).1 h
  have h3 : bp 1 = 1000000000 := by decide
  omega
set_option maxRecDepth 4000 in
set_option maxHeartbeats 6400000 in
theorem impl_natGcd (v v' : Value) (a b : Nat) (w : World) (hv : tInts.at w [v] (limbs a)) (hv' : tInts.at w [v'] (limbs b)) (hl : (limbs a).length ≤ 4000) (hm : (limbs b).length ≤ 4000) :
    Calls Tryz.prog 90 #[v, v'] w fun e w' => ∃ u, e = .returned u ∧ More w w' ∧ tInts.at w' [u] (limbs (Nat.gcd a b)) := by
  have HV := Lib.hid hv; have HV' := Lib.hid hv'; have HL := Lib.hid hl; have HM := Lib.hid hm; clear hv hv' hl hm
  go_enter Tryz.func90, Tryz.ntmps90
  go_wp2_with fail
  go_loopw [0, 1] (fun u u' wr => ∃ x y : Nat, Hid (tInts.at wr [u] (limbs x)) ∧ Hid (tInts.at wr [u'] (limbs y)) ∧ Hid (Nat.gcd x y = Nat.gcd a b) ∧ Hid ((limbs x).length ≤ 4000) ∧ Hid ((limbs y).length ≤ 4000) ∧ More w wr) (fun _ u' wr => natIn wr u')
  case atStart => exact ⟨a, b, HV, HV', Lib.hid rfl, HL, HM, mC⟩
  case round =>
    clear HV HV'
    obtain ⟨x, y, HX, HY, HG, HLX, HLY, hm⟩ := hrel
    obtain ⟨aoy, capy, rfl⟩ := sl_len HY.out
    obtain ⟨ny, hn⟩ : ∃ n, n = (limbs y).length := ⟨_, rfl⟩
    rw [← hn] at HY ⊢
    have HN := Lib.hid hn; clear hn
    by_cases h1 : 1 < ny
    · have h1' : (1 : Int) < (ny : Int) := by omega
      have hy0 : 0 < y := by
        rcases Nat.eq_zero_or_pos y with h | h
        · have := HN.out; rw [h, limbs_zero] at this; simp at this; omega
        · exact h
      go_wp2_with (go_at_call 124; refine (impl_natDiv _ _ x y _ (Ty.at_more HX.out mC) (Ty.at_more HY.out mC) HLX.out HLY.out hy0).mono ?_; rintro e w2 ⟨q, r, rfl, hb2, _, g2⟩; have G2 := Lib.hid g2; clear g2)
      go_roundw
      case rel => exact ⟨y, x % y, Lib.hid (Ty.at_more HY.out mC), Lib.hid (Ty.at_more G2.out mC), Lib.hid (by rw [← HG.out, Nat.gcd_comm y, ← Nat.gcd_rec, Nat.gcd_comm]), HLY, Lib.hid (Nat.le_trans (limbs_len_mono (Nat.le_of_lt (Nat.mod_lt x hy0))) HLY.out), mC⟩
      case measure =>
        rw [natIn_eq HY.out]
        rw [natIn_eq (Ty.at_more G2.out mC)]
        exact Nat.mod_lt x hy0
    · have h1' : ¬ (1 : Int) < (ny : Int) := by omega
      by_cases h0 : ny = 0
      · subst h0
        have hy : y = 0 := limbs_nil.1 (List.eq_nil_of_length_eq_zero HN.out.symm)
        subst hy
        go_wp2_with fail
        go_ret
        exact ⟨_, rfl, mC, by rw [← HG.out, Nat.gcd_zero_right]; exact Ty.at_more HX.out mC⟩
      · have hn1 : ny = 1 := by omega
        subst hn1
        have hyB : y < 1000000000 := limbs1_lt (by rw [← HN.out]; exact Nat.le_refl _)
        have hy0 : 0 < y := by
          rcases Nat.eq_zero_or_pos y with h | h
          · have := HN.out; rw [h, limbs_zero] at this; simp at this
          · exact h
        obtain ⟨px, offx, z, rfl, hbltx, hxx, -, ccx⟩ := int_el HY.out (k := 0) (by rw [← HN.out]; omega)
        have hzy : z = (y : Int) := by
          rw [limbs_one (by omega) hyB] at hxx
          simpa using hxx.symm
        subst hzy
        clear hxx
        rw [Nat.add_zero] at ccx
        go_wp2_with (go_at_call 125; refine (impl_natDivSmall _ x y _ (Ty.at_more HX.out mC) (Nat.le_trans HLX.out (by decide)) hy0 hyB).mono ?_; rintro e w2 ⟨u2, rfl, hb2, _⟩; have ccx2 := box_keep hb2 hbltx ccx)
        go_loopw [8, 9] (fun r n wz => ∃ r0 n0 : Nat, r = .int .i64 (r0 : Int) ∧ n = .int .i64 (n0 : Int) ∧ Hid (Nat.gcd n0 r0 = Nat.gcd a b) ∧ r0 < 1000000000 ∧ n0 < 1000000000 ∧ 0 < n0 ∧ More w wz) (fun r _ _ => (intOf r).toNat)
        case atStart => exact ⟨x % y, y, rfl, rfl, Lib.hid (by rw [← HG.out, Nat.gcd_comm y, ← Nat.gcd_rec, Nat.gcd_comm]), by have := Nat.mod_lt x hy0; omega, hyB, hy0, mC⟩
        case round =>
          clear HX HY HG ccx ccx2 hb2
          obtain ⟨r0, n0, rfl, rfl, HG, hr0, hn0, hp0, hm2⟩ := hrel
          by_cases hr : 0 < r0
          · have hr' : (0 : Int) < (r0 : Int) := by omega
            have hrz : ((r0 : Int) == 0) = false := by simp; omega
            have hrz2 : ¬ r0 = 0 := by omega
            have ht : (n0 : Int).tmod (r0 : Int) = ((n0 % r0 : Nat) : Int) := by rw [Int.tmod_eq_emod_of_nonneg (by omega)]; rfl
            have hmm : n0 % r0 < r0 := Nat.mod_lt _ hr
            have HG2 : Hid (Nat.gcd r0 (n0 % r0) = Nat.gcd a b) := Lib.hid (by rw [← HG.out, Nat.gcd_comm r0, ← Nat.gcd_rec, Nat.gcd_comm])
            obtain ⟨rr, hrr⟩ : ∃ rr, n0 % r0 = rr := ⟨_, rfl⟩
            rw [hrr] at ht hmm HG2
            clear hrr
            go_wp2_with fail
            go_region
            all_goals
              go_wp2_with fail
              go_roundw
              case rel => exact ⟨rr, r0, rfl, rfl, HG2, by omega, hr0, hr, mC⟩
              case measure => simp [intOf]; omega
          · have hr' : ¬ (0 : Int) < (r0 : Int) := by omega
            have hr0' : r0 = 0 := by omega
            subst hr0'
            have HE : Hid (Nat.gcd a b = n0) := Lib.hid (by rw [← HG.out, Nat.gcd_zero_right])
            go_wp2_with fail
            go_ret
            exact ⟨_, rfl, mC, by rw [HE.out, limbs_one (by omega) hn0]; exact FlatOwn.at (F := fInt) (FlatOwn.lit1 (B := 0) (Nat.zero_le _) rfl (In64.small (by omega)))⟩
set_option maxHeartbeats 1600000 in
theorem spec_l02Plain (x y : Nat) (w : World) (hx : x < 9223372036854775808) (hy : y < 9223372036854775808) :
    Calls Tryz.prog 151 #[.int .i64 (x : Int), .int .i64 (y : Int)] w fun e w' => ∃ u, e = .returned u ∧ More w w' ∧ tInts.at w' [u] (limbs (Nat.gcd x y)) := by
  have HX := Lib.hid hx; have HY := Lib.hid hy; clear hx hy
  go_enter Tryz.func151, Tryz.ntmps151
  go_wp2_with fail
  go_loopw [0, 1] (fun n r wr => ∃ n0 r0 : Nat, n = .int .i64 (n0 : Int) ∧ r = .int .i64 (r0 : Int) ∧ Hid (Nat.gcd n0 r0 = Nat.gcd x y) ∧ r0 < 9223372036854775808 ∧ n0 < 9223372036854775808 ∧ More w wr) (fun _ r _ => (intOf r).toNat)
  case atStart => exact ⟨x, y, rfl, rfl, Lib.hid rfl, HY.out, HX.out, mC⟩
  case round =>
    obtain ⟨n0, r0, rfl, rfl, HG, hr0, hn0, hm⟩ := hrel
    by_cases hr : 0 < r0
    · have hr' : (0 : Int) < (r0 : Int) := by omega
      have hrz : ((r0 : Int) == 0) = false := by simp; omega
      have hrz2 : ¬ r0 = 0 := by omega
      have ht : (n0 : Int).tmod (r0 : Int) = ((n0 % r0 : Nat) : Int) := by rw [Int.tmod_eq_emod_of_nonneg (by omega)]; rfl
      have hmm : n0 % r0 < r0 := Nat.mod_lt _ hr
      have HG2 : Hid (Nat.gcd r0 (n0 % r0) = Nat.gcd x y) := Lib.hid (by rw [← HG.out, Nat.gcd_comm r0, ← Nat.gcd_rec, Nat.gcd_comm])
      obtain ⟨rr, hrr⟩ : ∃ rr, n0 % r0 = rr := ⟨_, rfl⟩
      rw [hrr] at ht hmm HG2
      clear hrr
      go_wp2_with fail
      go_roundw
      case rel => exact ⟨r0, rr, rfl, rfl, HG2, by omega, hr0, mC⟩
      case measure => simp [intOf]; omega
    · have hr' : ¬ (0 : Int) < (r0 : Int) := by omega
      have hr0' : r0 = 0 := by omega
      subst hr0'
      have HE : Hid (Nat.gcd x y = n0) := Lib.hid (by rw [← HG.out, Nat.gcd_zero_right])
      go_wp2_with (go_at_call 130; refine (spec_NatOf n0 _ hn0).mono ?_; rintro e w1 ⟨u1, rfl, hb1, g1⟩; have G1 := Lib.hid g1; clear g1)
      go_ret
      exact ⟨_, rfl, mC, by rw [HE.out]; exact Ty.at_more G1.out mC⟩
end Go.Proofs.YtnbefpfijaimjaaGreatDoor
