/- ParseBigInt: the reference's and the program's. -/
import Derived.Test.YtnbefpfijaimjaaGreatDoorStf
import Derived.Test.YtnbefpfijaimjaaGreatDoorOk
import Derived.Test.YtnbefpfijaimjaaGreatDoorClo
namespace Go.Proofs.YtnbefpfijaimjaaGreatDoor
open Go.RowKit
def pB (l : List UInt8) : Option Int := match pN (absB l) with
  | none => none
  | some n => if negB l && decide (n = 0) then none else some (if negB l then -(n : Int) else (n : Int))
theorem pB_none {l : List UInt8} (h : pN (absB l) = none) : pB l = none := by unfold pB; rw [h]
theorem pB_zero {l : List UInt8} (h : pN (absB l) = some 0) (hn : negB l = true) : pB l = none := by unfold pB; rw [h, hn]; rfl
theorem pB_some {l : List UInt8} {n : Nat} (h : pN (absB l) = some n) (hz : (negB l && decide (n = 0)) = false) : pB l = some (if negB l then -(n : Int) else (n : Int)) := by unfold pB; rw [h]; show (if (negB l && decide (n = 0)) = true then none else _) = _; rw [hz]; rfl
theorem pB_sign {l : List UInt8} {n : Nat} (hz : (negB l && decide (n = 0)) = false) : decide ((if negB l then -(n : Int) else (n : Int)) < 0) = negB l ∧ (if negB l then -(n : Int) else (n : Int)).natAbs = n := by
  cases hb : negB l with
  | false => simp
  | true =>
    rw [hb] at hz
    have : n ≠ 0 := by simpa using hz
    simp
    omega
theorem bp_ten (k : Nat) : bp k = ((10 ^ (9 * k) : Nat) : Int) := by
  induction k with
  | zero => rfl
  | succ k ih =>
    show BB * bp k = _
    rw [ih, Nat.mul_succ, Nat.pow_add, Nat.mul_comm (10 ^ (9 * k)), Int.natCast_mul]
    rfl
theorem pN_limbs {l : List UInt8} {n : Nat} (h : pN l = some n) : natOkB (limbs n) = true := by
  obtain ⟨h1, h2, h3, rfl⟩ := pN_ok h
  have key : ∀ k, l.length ≤ 9 * k → (limbs (cv l)).length ≤ k := by
    intro k hk
    rw [limbs_len_le, bp_ten]
    exact Int.ofNat_lt.2 (Nat.lt_of_lt_of_le (cv_lt h1) (Nat.pow_le_pow_right (by omega) hk))
  have h4 := key 60 (by omega)
  unfold natOkB
  simpa using ⟨h4, limbs_can _⟩
theorem pN_len {l : List UInt8} {n : Nat} (h : pN l = some n) : (limbs n).length ≤ 60 := by
  have h1 := pN_limbs h
  unfold natOkB at h1
  have h2 : (limbs n).length ≤ 60 ∧ Can (limbs n) := by simpa using h1
  exact h2.1
theorem pN_big {l : List UInt8} {n : Nat} (h : pN l = some n) (b : Bool) : bigOkB (b, limbs n) = !(b && decide (n = 0)) := by
  unfold bigOkB
  rw [pN_limbs h, Bool.true_and]
  congr 2
  apply decide_eq_decide.2
  show (limbs n).length = 0 ↔ _
  rw [List.length_eq_zero_iff, limbs_nil]
theorem abs_sB {l : List UInt8} (h : negB l = true) : (sB l).extract 1 l.length = sB (absB l) := by
  rw [sB_extract, List.take_length]
  unfold absB
  rw [if_pos h]
theorem big_done {w w1 W : World} {v : Value} {m : Nat} {N : Nat} (hN : N < w1.heap.size) (F : ∃ w2, FlatOwn fInt w1.heap.size 3 w2 v (limbs m) ∧ Turns [N] w2 W) (hB : w.heap.size ≤ w1.heap.size) : tInts.fresh w.heap.size W [v] (limbs m) := by
  obtain ⟨w2, F, t⟩ := F
  exact Ty.fresh_mono (Ty.fresh_turns F.fresh t (fun k hk => by simp at hk; omega)) hB
set_option maxRecDepth 8000 in
set_option maxHeartbeats 3200000 in
theorem impl_ParseBigInt (l : List UInt8) (w : World) (hl : l.length ≤ 1048576) :
    Calls Tryz.prog 45 #[.string (sB l)] w fun e w' => ∃ v', e = .returned (.tuple #[.agg #[.bool (decide ((pB l).getD 0 < 0)), v'], .bool (pB l).isSome]) ∧ More w w' ∧ tInts.fresh w.heap.size w' [v'] (limbs ((pB l).getD 0).natAbs) := by
  have HA : Hid ((absB l).length ≤ 1048576) := Lib.hid (Nat.le_trans (absB_len l) hl)
  have N0 : ∀ w', More (w.alloc (.cells #[.bool false, .slice none 0 0] 24)) w' → w'.cell? ⟨w.heap.size, 0, none⟩ = some (.bool false) ∧ w'.cell? ⟨w.heap.size, 1, none⟩ = some (.slice none 0 0) ∧ ∀ j, w'.frozen? ⟨w.heap.size, j, none⟩ = false := fun w' h => ⟨box_new (by simp) h 0, box_new (by simp) h 1, box_free (by simp) h⟩
  cases hp : pN (absB l) with
  | none =>
    have HP := Lib.hid hp; clear hp
    go_enter Tryz.func45, Tryz.ntmps45
    go_wp2_with (first | (go_at_call 85; refine (str_CutPrefix l _).mono ?_; rintro e w1 ⟨rfl, rfl⟩) | (go_at_call 46; refine (impl_ParseNat (absB l) _ HA.out).mono ?_; rintro e w2 ⟨v2, rfl, hb2, f2⟩; rw [HP.out] at f2 ⊢; simp only [Option.getD_none] at f2; obtain ⟨a2, k2, c2, rfl⟩ := sh1 f2.at; have F2 := Lib.hid f2; clear f2; obtain ⟨n0, n1, nf⟩ := N0 w2 mC; have nl : w.heap.size < w2.heap.size := by have := hb2.size; simp at this; omega))
    refine bodyPost_ret (v := .tuple #[.agg #[.bool false, .slice none 0 0], .bool false]) ?_ rfl ?_
    rotate_left
    · exact ⟨.slice none 0 0, by rw [pB_none HP.out]; rfl, mC2, by rw [pB_none HP.out]; exact nil_fresh⟩
    · simp [results, Tryz.results45, go_sem, *]
  | some n =>
    have HP := Lib.hid hp; clear hp
    have HBB : Hid (∀ b, bigOkB (b, limbs n) = !(b && decide (n = 0))) := Lib.hid (pN_big HP.out)
    have HLN : Hid ((limbs n).length ≤ 60) := Lib.hid (pN_len HP.out)
    rcases Bool.eq_false_or_eq_true (negB l && decide (n = 0)) with hz | hz
    rotate_left
    · have HZ := Lib.hid hz; clear hz
      have HOKC : Hid (∀ (v : Value) (w : World), tInts.at w [v] (limbs n) → Calls Tryz.prog 86 #[.agg #[.bool (negB l), v]] w fun e w' => e = .returned (.bool true) ∧ More w w') := Lib.hid (fun v w hv => (impl_BigIntOk (negB l) v (negB l, limbs n) w rfl hv (Nat.le_trans HLN.out (by decide))).mono (fun e w' h => ⟨by rw [h.1, HBB.out, HZ.out]; rfl, h.2⟩))
      go_enter Tryz.func45, Tryz.ntmps45
      go_wp2_with (first | (go_at_call 86; refine (HOKC.out (.slice a2 k2 c2) _ (Ty.at_more F2.out.at mC2)).mono ?_; rintro e w3 ⟨rfl, hb3⟩; obtain ⟨m0, m1, mf⟩ := N0 w3 (More.trans hb2 mC2); have ml : w.heap.size < w3.heap.size := Nat.lt_of_lt_of_le nl (More.size (show More w2 w3 from mC2)); have x0 : w3.cell? ⟨w2.heap.size, 0, none⟩ = some (.bool (negB l)) := box_new (by simp) hb3 0; have x1 : w3.cell? ⟨w2.heap.size, 1, none⟩ = some (.slice a2 k2 c2) := box_new (by simp) hb3 1) | (go_at_call 85; refine (str_CutPrefix l _).mono ?_; rintro e w1 ⟨rfl, rfl⟩) | (go_at_call 46; refine (impl_ParseNat (absB l) _ HA.out).mono ?_; rintro e w2 ⟨v2, rfl, hb2, f2⟩; rw [HP.out] at f2 ⊢; simp only [Option.getD_some] at f2; obtain ⟨a2, k2, c2, rfl⟩ := sh1 f2.at; have F2 := Lib.hid f2; clear f2; obtain ⟨n0, n1, nf⟩ := N0 w2 mC; have nl : w.heap.size < w2.heap.size := by have := hb2.size; simp at this; omega))
      refine bodyPost_ret (v := .tuple #[.agg #[.bool (negB l), .slice a2 k2 c2], .bool true]) ?_ rfl ?_
      rotate_left
      · have hs := pB_sign HZ.out
        refine ⟨.slice a2 k2 c2, ?_, mC2, ?_⟩
        · rw [pB_some HP.out HZ.out]
          show _ = Ending.returned (.tuple #[.agg #[.bool (decide ((if negB l then -(n : Int) else (n : Int)) < 0)), _], _])
          rw [hs.1]
          rfl
        · rw [pB_some HP.out HZ.out]
          show tInts.fresh _ _ _ (limbs (if negB l then -(n : Int) else (n : Int)).natAbs)
          rw [hs.2]
          exact Ty.fresh_mono (Ty.fresh_turns (bs := [w.heap.size]) F2.out.fresh tC (by simp)) (by simp)
      · simp [results, Tryz.results45, go_sem, *]
    · have HZ := Lib.hid hz; clear hz
      have HOKC : Hid (∀ (v : Value) (w : World), tInts.at w [v] (limbs n) → Calls Tryz.prog 86 #[.agg #[.bool (negB l), v]] w fun e w' => e = .returned (.bool false) ∧ More w w') := Lib.hid (fun v w hv => (impl_BigIntOk (negB l) v (negB l, limbs n) w rfl hv (Nat.le_trans HLN.out (by decide))).mono (fun e w' h => ⟨by rw [h.1, HBB.out, HZ.out]; rfl, h.2⟩))
      go_enter Tryz.func45, Tryz.ntmps45
      go_wp2_with (first | (go_at_call 86; refine (HOKC.out (.slice a2 k2 c2) _ (Ty.at_more F2.out.at mC2)).mono ?_; rintro e w3 ⟨rfl, hb3⟩; obtain ⟨m0, m1, mf⟩ := N0 w3 (More.trans hb2 mC2); have ml : w.heap.size < w3.heap.size := Nat.lt_of_lt_of_le nl (More.size (show More w2 w3 from mC2)); have x0 : w3.cell? ⟨w2.heap.size, 0, none⟩ = some (.bool (negB l)) := box_new (by simp) hb3 0; have x1 : w3.cell? ⟨w2.heap.size, 1, none⟩ = some (.slice a2 k2 c2) := box_new (by simp) hb3 1) | (go_at_call 85; refine (str_CutPrefix l _).mono ?_; rintro e w1 ⟨rfl, rfl⟩) | (go_at_call 46; refine (impl_ParseNat (absB l) _ HA.out).mono ?_; rintro e w2 ⟨v2, rfl, hb2, f2⟩; rw [HP.out] at f2 ⊢; simp only [Option.getD_some] at f2; obtain ⟨a2, k2, c2, rfl⟩ := sh1 f2.at; have F2 := Lib.hid f2; clear f2; obtain ⟨n0, n1, nf⟩ := N0 w2 mC; have nl : w.heap.size < w2.heap.size := by have := hb2.size; simp at this; omega))
      have hb0 := HZ.out
      rw [Bool.and_eq_true, decide_eq_true_eq] at hb0
      obtain ⟨hn1, rfl⟩ := hb0
      refine bodyPost_ret (v := .tuple #[.agg #[.bool false, .slice none 0 0], .bool false]) ?_ rfl ?_
      rotate_left
      · exact ⟨.slice none 0 0, by rw [pB_zero HP.out hn1]; rfl, mC2, by rw [pB_zero HP.out hn1]; exact nil_fresh⟩
      · simp [results, Tryz.results45, go_sem, *]
set_option maxRecDepth 8000 in
set_option maxHeartbeats 6400000 in
theorem spec_ParseBigInt (l : List UInt8) (w : World) (hl : l.length ≤ 1048576) :
    Calls Tryz.prog 41 #[.string (sB l)] w fun e w' => ∃ v', e = .returned (.tuple #[.agg #[.bool (decide ((pB l).getD 0 < 0)), v'], .bool (pB l).isSome]) ∧ More w w' ∧ tInts.fresh w.heap.size w' [v'] (limbs ((pB l).getD 0).natAbs) := by
  have N0 : ∀ w', More (w.alloc (.cells #[.bool false, .slice none 0 0] 24)) w' → w'.cell? ⟨w.heap.size, 0, none⟩ = some (.bool false) ∧ w'.cell? ⟨w.heap.size, 1, none⟩ = some (.slice none 0 0) ∧ ∀ j, w'.frozen? ⟨w.heap.size, j, none⟩ = false := fun w' h => ⟨box_new (by simp) h 0, box_new (by simp) h 1, box_free (by simp) h⟩
  obtain ⟨n, hn⟩ : ∃ n, n = l.length := ⟨_, rfl⟩
  have hs : (sB l).size = n := by rw [sB_size, hn]
  have HN := Lib.hid hn; clear hn
  rcases Bool.eq_false_or_eq_true (negB l) with hneg | hneg
  · have HNG := Lib.hid hneg
    have HA : Hid ((absB l).length ≤ 1048576) := Lib.hid (Nat.le_trans (absB_len l) hl)
    have HAB : Hid (absB l = absB l) := Lib.hid rfl
    have hc0 : l[0]? = some 45 := by unfold negB at hneg; simpa using hneg
    have hn0 : 0 < n := by rw [HN.out]; exact (List.getElem?_eq_some_iff.1 hc0).1
    have hn0' : (0 : Int) < (n : Int) := by omega
    have hn1' : (1 : Int) ≤ (n : Int) := by omega
    have hg0 : ∀ h, (sB l)[0]'h = 45 := fun h => sB_get hc0 h
    have hext : (sB l).extract 1 n = sB (absB l) := by rw [HN.out]; exact abs_sB hneg
    clear hneg hc0
    cases hp : pN (absB l) with
    | none =>
      have HP := Lib.hid hp; have HPA : Hid (pN (absB l) = none) := Lib.hid (by first | exact hp | (rw [HAB.out]; exact hp)); clear hp
      go_enter Tryz.func41, Tryz.ntmps41
      go_wp2_with (go_at_call 42; refine (spec_ParseNat (absB l) _ HA.out).mono ?_; rintro e w2 ⟨v2, rfl, hb2, f2⟩; rw [HP.out] at f2 ⊢; simp only [Option.getD_none] at f2; obtain ⟨a2, c2, rfl⟩ := f2.len; have F2 := Lib.hid f2; clear f2; obtain ⟨n0, n1, nf⟩ := N0 w2 mC; have nl : w.heap.size < w2.heap.size := by have := hb2.size; simp at this; omega)
      refine bodyPost_ret (v := .tuple #[.agg #[.bool false, .slice none 0 0], .bool false]) ?_ rfl ?_
      rotate_left
      · exact ⟨.slice none 0 0, by rw [pB_none HPA.out]; rfl, mC2, by rw [pB_none HPA.out]; exact nil_fresh⟩
      · simp [results, Tryz.results41, go_sem, *]
    | some m =>
      have HP := Lib.hid hp; have HPA : Hid (pN (absB l) = some m) := Lib.hid (by first | exact hp | (rw [HAB.out]; exact hp)); clear hp
      have hK : (((limbs m).length : Int) == 0) = decide (m = 0) := by
        rw [Bool.eq_iff_iff, beq_iff_eq, decide_eq_true_eq, ← limbs_nil, ← List.length_eq_zero_iff]
        omega
      rcases Bool.eq_false_or_eq_true (negB l && decide (m = 0)) with hz | hz
      rotate_left
      · have HZ := Lib.hid hz; clear hz
        have hm0 : (m == 0) = false := by have := HZ.out; rw [HNG.out] at this; simpa using this
        have hm1 : decide (m = 0) = false := by simpa using hm0
        all_goals
          go_enter Tryz.func41, Tryz.ntmps41
          go_wp2_with (go_at_call 42; refine (spec_ParseNat (absB l) _ HA.out).mono ?_; rintro e w2 ⟨v2, rfl, hb2, f2⟩; rw [HP.out] at f2 ⊢; simp only [Option.getD_some] at f2; obtain ⟨a2, c2, rfl⟩ := f2.len; have F2 := Lib.hid f2; clear f2; obtain ⟨n0, n1, nf⟩ := N0 w2 mC; have nl : w.heap.size < w2.heap.size := by have := hb2.size; simp at this; omega)
          refine bodyPost_ret (v := .tuple #[.agg #[.bool true, .slice a2 (limbs m).length c2], .bool true]) ?_ rfl ?_
          rotate_left
          · have hs := pB_sign HZ.out
            refine ⟨.slice a2 (limbs m).length c2, ?_, mC2, ?_⟩
            · rw [pB_some HPA.out HZ.out]
              show _ = Ending.returned (.tuple #[.agg #[.bool (decide ((if negB l then -(m : Int) else (m : Int)) < 0)), _], _])
              rw [hs.1, HNG.out]
              rfl
            · rw [pB_some HPA.out HZ.out]
              show tInts.fresh _ _ _ (limbs (if negB l then -(m : Int) else (m : Int)).natAbs)
              rw [hs.2]
              exact Ty.fresh_mono (Ty.fresh_turns (bs := [w.heap.size]) F2.out.fresh tC (by simp)) (by simp)
          · simp [results, Tryz.results41, go_sem, *]
      · have HZ := Lib.hid hz
        rw [HNG.out] at hz
        have hm0 : m = 0 := by simpa using hz
        subst hm0
        have hK0 : (limbs 0).length = 0 := by rw [limbs_zero]; rfl
        clear hz
        go_enter Tryz.func41, Tryz.ntmps41
        go_wp2_with (go_at_call 42; refine (spec_ParseNat (absB l) _ HA.out).mono ?_; rintro e w2 ⟨v2, rfl, hb2, f2⟩; rw [HP.out] at f2 ⊢; simp only [Option.getD_some] at f2; obtain ⟨a2, c2, rfl⟩ := f2.len; have F2 := Lib.hid f2; clear f2; obtain ⟨n0, n1, nf⟩ := N0 w2 mC; have nl : w.heap.size < w2.heap.size := by have := hb2.size; simp at this; omega)
        refine bodyPost_ret (v := .tuple #[.agg #[.bool false, .slice none 0 0], .bool false]) ?_ rfl ?_
        rotate_left
        · exact ⟨.slice none 0 0, by rw [pB_zero HPA.out HNG.out]; rfl, mC2, by rw [pB_zero HPA.out HNG.out]; exact nil_fresh⟩
        · simp [results, Tryz.results41, go_sem, *]
  · have HNG := Lib.hid hneg
    have HA : Hid (l.length ≤ 1048576) := Lib.hid hl
    have HAB : Hid (absB l = l) := Lib.hid (by unfold absB; rw [hneg]; rfl)
    have hdec : ((0 : Int) < (n : Int) ∧ ∃ c : UInt8, (∀ h, (sB l)[0]'h = c) ∧ ((c.toNat : Int) == 45) = false) ∨ ¬ (0 : Int) < (n : Int) := by
      cases l with
      | nil => exact .inr (by rw [HN.out]; simp)
      | cons a t =>
        refine .inl ⟨by rw [HN.out]; simp, a, fun h => sB_get rfl h, ?_⟩
        have h1 : a ≠ 45 := by unfold negB at hneg; simpa using hneg
        rw [beq_eq_false_iff_ne]
        intro h2
        exact h1 (UInt8.toNat_inj.1 (by have h9 : (45 : UInt8).toNat = 45 := rfl; omega))
    clear hneg
    rcases hdec with ⟨hn0', c0, hg0, h45⟩ | hn0'
    all_goals
      cases hp : pN l with
      | none =>
        have HP := Lib.hid hp; have HPA : Hid (pN (absB l) = none) := Lib.hid (by first | exact hp | (rw [HAB.out]; exact hp)); clear hp
        go_enter Tryz.func41, Tryz.ntmps41
        go_wp2_with (go_at_call 42; refine (spec_ParseNat l _ HA.out).mono ?_; rintro e w2 ⟨v2, rfl, hb2, f2⟩; rw [HP.out] at f2 ⊢; simp only [Option.getD_none] at f2; obtain ⟨a2, c2, rfl⟩ := f2.len; have F2 := Lib.hid f2; clear f2; obtain ⟨n0, n1, nf⟩ := N0 w2 mC; have nl : w.heap.size < w2.heap.size := by have := hb2.size; simp at this; omega)
        refine bodyPost_ret (v := .tuple #[.agg #[.bool false, .slice none 0 0], .bool false]) ?_ rfl ?_
        rotate_left
        · exact ⟨.slice none 0 0, by rw [pB_none HPA.out]; rfl, mC2, by rw [pB_none HPA.out]; exact nil_fresh⟩
        · simp [results, Tryz.results41, go_sem, *]
      | some m =>
        have HP := Lib.hid hp; have HPA : Hid (pN (absB l) = some m) := Lib.hid (by first | exact hp | (rw [HAB.out]; exact hp)); clear hp
        have hK : (((limbs m).length : Int) == 0) = decide (m = 0) := by
          rw [Bool.eq_iff_iff, beq_iff_eq, decide_eq_true_eq, ← limbs_nil, ← List.length_eq_zero_iff]
          omega
        rcases Bool.eq_false_or_eq_true (negB l && decide (m = 0)) with hz | hz
        rotate_left
        · have HZ := Lib.hid hz; clear hz
          skip
          all_goals
            go_enter Tryz.func41, Tryz.ntmps41
            go_wp2_with (go_at_call 42; refine (spec_ParseNat l _ HA.out).mono ?_; rintro e w2 ⟨v2, rfl, hb2, f2⟩; rw [HP.out] at f2 ⊢; simp only [Option.getD_some] at f2; obtain ⟨a2, c2, rfl⟩ := f2.len; have F2 := Lib.hid f2; clear f2; obtain ⟨n0, n1, nf⟩ := N0 w2 mC; have nl : w.heap.size < w2.heap.size := by have := hb2.size; simp at this; omega)
            refine bodyPost_ret (v := .tuple #[.agg #[.bool false, .slice a2 (limbs m).length c2], .bool true]) ?_ rfl ?_
            rotate_left
            · have hs := pB_sign HZ.out
              refine ⟨.slice a2 (limbs m).length c2, ?_, mC2, ?_⟩
              · rw [pB_some HPA.out HZ.out]
                show _ = Ending.returned (.tuple #[.agg #[.bool (decide ((if negB l then -(m : Int) else (m : Int)) < 0)), _], _])
                rw [hs.1, HNG.out]
                rfl
              · rw [pB_some HPA.out HZ.out]
                show tInts.fresh _ _ _ (limbs (if negB l then -(m : Int) else (m : Int)).natAbs)
                rw [hs.2]
                exact Ty.fresh_mono (Ty.fresh_turns (bs := [w.heap.size]) F2.out.fresh tC (by simp)) (by simp)
            · simp [results, Tryz.results41, go_sem, *]
        · have HZ := Lib.hid hz
          rw [HNG.out] at hz
          cases hz
end Go.Proofs.YtnbefpfijaimjaaGreatDoor
