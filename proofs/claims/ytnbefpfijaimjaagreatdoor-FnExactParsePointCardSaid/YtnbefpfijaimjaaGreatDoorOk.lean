/- Whether a whole number, a fraction is valid: the program's and the reference's. -/
import Derived.Test.YtnbefpfijaimjaaGreatDoorRt
import Derived.Test.YtnbefpfijaimjaaGreatDoorNatH
namespace Go.Proofs.YtnbefpfijaimjaaGreatDoor
open Go.RowKit
noncomputable def bigOkB (x : QZ) : Bool := natOkB x.2 && !(x.1 && decide (x.2.length = 0))
theorem bigOk_no {x : QZ} (h : natOkB x.2 = false) : bigOkB x = false := by unfold bigOkB; rw [h]; rfl
theorem bigOk_pos {x : QZ} (h : natOkB x.2 = true) (hs : x.1 = false) : bigOkB x = true := by unfold bigOkB; rw [h, hs]; rfl
theorem bigOk_nil {x : QZ} (h : natOkB x.2 = true) (hs : x.1 = true) (h0 : 0 = x.2.length) : bigOkB x = false := by unfold bigOkB; rw [h, hs, ← h0]; rfl
theorem bigOk_neg {x : QZ} (h : natOkB x.2 = true) (h0 : x.2.length ≠ 0) : bigOkB x = true := by unfold bigOkB; rw [h, decide_eq_false h0]; simp
theorem bigOk_out {x : QZ} (h : bigOkB x = true) : ∃ m, x.2 = limbs m ∧ (x.1 = true → m ≠ 0) ∧ x.2.length ≤ 60 := by
  unfold bigOkB at h
  rw [Bool.and_eq_true] at h
  obtain ⟨h1, m, hm⟩ := natOk_out h.1
  refine ⟨m, hm, fun hs => ?_, h1⟩
  rintro rfl
  rw [hs, hm, limbs_zero] at h
  simp at h
open Classical in
noncomputable def ratOkB (x : QR) : Bool := decide (∃ f, Good f ∧ x = encR f)
theorem ratOk_iff {x : QR} : ratOkB x = true ↔ ∃ f, Good f ∧ x = encR f := by unfold ratOkB; simp
theorem ratOk_not {x : QR} (h : ¬ ∃ f, Good f ∧ x = encR f) : ratOkB x = false := Bool.eq_false_iff.2 (fun k => h (ratOk_iff.1 k))
theorem ratOk_parts {x : QR} (h : ratOkB x = true) : bigOkB x.1 = true ∧ natOkB x.2 = true ∧ x.2.length ≠ 0 ∧ x.1.2.length ≤ 24 ∧ x.2.length ≤ 24 := by
  obtain ⟨f, ⟨h1, h2, h3, h4⟩, rfl⟩ := ratOk_iff.1 h
  have h3' := sm_iff.1 h3
  have h4' := sm_iff.1 h4
  refine ⟨?_, natOk_limbs (Nat.le_trans h4' (by decide)), fun e => h1 (limbs_nil.1 (List.eq_nil_of_length_eq_zero e)), h3', h4'⟩
  unfold bigOkB
  rw [Bool.and_eq_true]
  refine ⟨natOk_limbs (Nat.le_trans h3' (by decide)), ?_⟩
  show (!(decide (f.1 < 0) && decide ((limbs f.1.natAbs).length = 0))) = true
  by_cases hz : (limbs f.1.natAbs).length = 0
  · have := limbs_nil.1 (List.eq_nil_of_length_eq_zero hz)
    have : ¬ f.1 < 0 := by omega
    simp [this]
  · simp [hz]
theorem ratOk_gcd {s : Bool} {m d : Nat} (hs : s = true → m ≠ 0) (hd : d ≠ 0) (h1 : (limbs m).length ≤ 24) (h2 : (limbs d).length ≤ 24) : ratOkB ((s, limbs m), limbs d) = decide (Nat.gcd m d = 1) := by
  by_cases hg : Nat.gcd m d = 1
  · rw [decide_eq_true hg, ratOk_iff]
    refine ⟨(sgn s m, d), ⟨hd, by rw [natAbs_sgn]; exact hg, by rw [natAbs_sgn]; exact sm_iff.2 h1, sm_iff.2 h2⟩, ?_⟩
    unfold encR
    rw [encZ_sgn]
    cases s
    · rfl
    · simp [hs rfl]
  · rw [decide_eq_false hg]
    refine ratOk_not ?_
    rintro ⟨f, ⟨_, h4, _, _⟩, he⟩
    have e1 := limbs_inj (congrArg (fun y : QR => y.1.2) he)
    have e2 := limbs_inj (congrArg (fun y : QR => y.2) he)
    rw [← e1, ← e2] at h4
    exact hg h4
/-- What is valid is a fraction's. -/
theorem ratOk_fr {x : QR} (h : ratOkB x = true) : ∃ f, Good f ∧ x = encR f := ratOk_iff.1 h
set_option maxHeartbeats 1600000 in
theorem impl_BigIntOk (b : Bool) (v : Value) (x : QZ) (w : World) (hb : x.1 = b) (hv : tInts.at w [v] x.2) (hl : x.2.length ≤ 1048576) :
    Calls Tryz.prog 86 #[.agg #[.bool b, v]] w fun e w' => e = .returned (.bool (bigOkB x)) ∧ More w w' := by
  obtain ⟨ao, cap, rfl⟩ := sl_len hv
  have HV := Lib.hid hv; have HBB := Lib.hid hb; clear hv hb
  obtain ⟨n, hn⟩ : ∃ n, n = x.2.length := ⟨_, rfl⟩
  rw [← hn] at HV hl ⊢
  have HN := Lib.hid hn; clear hn
  rcases Bool.eq_false_or_eq_true (natOkB x.2) with ho | ho
  rotate_left
  · have HO := Lib.hid ho; clear ho
    have HX : More (w.alloc (.cells #[.bool b, .slice ao n cap] 24)) (w.alloc (.cells #[.bool b, .slice ao n cap] 24)) := More.refl _
    have HB : ∀ w', More (w.alloc (.cells #[.bool b, .slice ao n cap] 24)) w' → w'.cell? ⟨w.heap.size, 0, none⟩ = some (.bool b) ∧ w'.cell? ⟨w.heap.size, 1, none⟩ = some (.slice ao n cap) ∧ (∀ j, w'.frozen? ⟨w.heap.size, j, none⟩ = false) := fun w' h => ⟨box_new (by simp) h 0, box_new (by simp) h 1, fun j => box_free (by simp) h j⟩
    go_enter Tryz.func86, Tryz.ntmps86
    go_wp2_with (first | (go_at_call 89; refine (impl_NatOk _ x.2 _ (Ty.at_more HV.out mC) (by rw [← HN.out]; exact hl)).mono ?_; rintro e w1 ⟨rfl, hb1⟩; have HX1 : More (w.alloc (.cells #[.bool b, .slice ao n cap] 24)) w1 := mC; have HB1 := HB _ HX1; have hz1 := More.size HX1; (try simp at hz1); have hb1 := hb1; rw [HO.out]))
    go_ret
    exact ⟨ret_bool (bigOk_no HO.out).symm, mC⟩
  have HO := Lib.hid ho; clear ho
  cases b
  · skip
    have HX : More (w.alloc (.cells #[.bool false, .slice ao n cap] 24)) (w.alloc (.cells #[.bool false, .slice ao n cap] 24)) := More.refl _
    have HB : ∀ w', More (w.alloc (.cells #[.bool false, .slice ao n cap] 24)) w' → w'.cell? ⟨w.heap.size, 0, none⟩ = some (.bool false) ∧ w'.cell? ⟨w.heap.size, 1, none⟩ = some (.slice ao n cap) ∧ (∀ j, w'.frozen? ⟨w.heap.size, j, none⟩ = false) := fun w' h => ⟨box_new (by simp) h 0, box_new (by simp) h 1, fun j => box_free (by simp) h j⟩
    go_enter Tryz.func86, Tryz.ntmps86
    go_wp2_with (first | (go_at_call 89; refine (impl_NatOk _ x.2 _ (Ty.at_more HV.out mC) (by rw [← HN.out]; exact hl)).mono ?_; rintro e w1 ⟨rfl, hb1⟩; have HX1 : More (w.alloc (.cells #[.bool false, .slice ao n cap] 24)) w1 := mC; have HB1 := HB _ HX1; have hz1 := More.size HX1; (try simp at hz1); have hb1 := hb1; rw [HO.out]))
    go_ret
    exact ⟨ret_bool (bigOk_pos HO.out HBB.out).symm, mC⟩
  · by_cases h0 : n = 0
    · subst h0
      have HX : More (w.alloc (.cells #[.bool true, .slice ao 0 cap] 24)) (w.alloc (.cells #[.bool true, .slice ao 0 cap] 24)) := More.refl _
      have HB : ∀ w', More (w.alloc (.cells #[.bool true, .slice ao 0 cap] 24)) w' → w'.cell? ⟨w.heap.size, 0, none⟩ = some (.bool true) ∧ w'.cell? ⟨w.heap.size, 1, none⟩ = some (.slice ao 0 cap) ∧ (∀ j, w'.frozen? ⟨w.heap.size, j, none⟩ = false) := fun w' h => ⟨box_new (by simp) h 0, box_new (by simp) h 1, fun j => box_free (by simp) h j⟩
      go_enter Tryz.func86, Tryz.ntmps86
      go_wp2_with (first | (go_at_call 89; refine (impl_NatOk _ x.2 _ (Ty.at_more HV.out mC) (by rw [← HN.out]; exact hl)).mono ?_; rintro e w1 ⟨rfl, hb1⟩; have HX1 : More (w.alloc (.cells #[.bool true, .slice ao 0 cap] 24)) w1 := mC; have HB1 := HB _ HX1; have hz1 := More.size HX1; (try simp at hz1); have hb1 := hb1; rw [HO.out]))
      go_ret
      exact ⟨ret_bool (bigOk_nil HO.out HBB.out HN.out).symm, mC⟩
    · have h0' : ((n : Int) == 0) = false := by simp [h0]
      have h1' : (0 : Int) < (n : Int) := by omega
      have HX : More (w.alloc (.cells #[.bool true, .slice ao n cap] 24)) (w.alloc (.cells #[.bool true, .slice ao n cap] 24)) := More.refl _
      have HB : ∀ w', More (w.alloc (.cells #[.bool true, .slice ao n cap] 24)) w' → w'.cell? ⟨w.heap.size, 0, none⟩ = some (.bool true) ∧ w'.cell? ⟨w.heap.size, 1, none⟩ = some (.slice ao n cap) ∧ (∀ j, w'.frozen? ⟨w.heap.size, j, none⟩ = false) := fun w' h => ⟨box_new (by simp) h 0, box_new (by simp) h 1, fun j => box_free (by simp) h j⟩
      go_enter Tryz.func86, Tryz.ntmps86
      go_wp2_with (first | (go_at_call 89; refine (impl_NatOk _ x.2 _ (Ty.at_more HV.out mC) (by rw [← HN.out]; exact hl)).mono ?_; rintro e w1 ⟨rfl, hb1⟩; have HX1 : More (w.alloc (.cells #[.bool true, .slice ao n cap] 24)) w1 := mC; have HB1 := HB _ HX1; have hz1 := More.size HX1; (try simp at hz1); have hb1 := hb1; rw [HO.out]))
      go_ret
      exact ⟨ret_bool (by first | exact (bigOk_neg HO.out (by rw [← HN.out]; exact h0)).symm | (rw [bigOk_neg HO.out (by rw [← HN.out]; exact h0)]; simp <;> omega)), mC⟩
set_option maxHeartbeats 1600000 in
theorem spec_BigIntOk (b : Bool) (v : Value) (x : QZ) (w : World) (hb : x.1 = b) (hv : tInts.at w [v] x.2) (hl : x.2.length ≤ 1048576) :
    Calls Tryz.prog 111 #[.agg #[.bool b, v]] w fun e w' => e = .returned (.bool (bigOkB x)) ∧ More w w' := by
  obtain ⟨ao, cap, rfl⟩ := sl_len hv
  have HV := Lib.hid hv; have HBB := Lib.hid hb; clear hv hb
  obtain ⟨n, hn⟩ : ∃ n, n = x.2.length := ⟨_, rfl⟩
  rw [← hn] at HV hl ⊢
  have HN := Lib.hid hn; clear hn
  rcases Bool.eq_false_or_eq_true (natOkB x.2) with ho | ho
  rotate_left
  · have HO := Lib.hid ho; clear ho
    have HX : More (w.alloc (.cells #[.bool b, .slice ao n cap] 24)) (w.alloc (.cells #[.bool b, .slice ao n cap] 24)) := More.refl _
    have HB : ∀ w', More (w.alloc (.cells #[.bool b, .slice ao n cap] 24)) w' → w'.cell? ⟨w.heap.size, 0, none⟩ = some (.bool b) ∧ w'.cell? ⟨w.heap.size, 1, none⟩ = some (.slice ao n cap) ∧ (∀ j, w'.frozen? ⟨w.heap.size, j, none⟩ = false) := fun w' h => ⟨box_new (by simp) h 0, box_new (by simp) h 1, fun j => box_free (by simp) h j⟩
    go_enter Tryz.func111, Tryz.ntmps111
    go_wp2_with (first | (go_at_call 112; refine (spec_NatOk _ x.2 _ (Ty.at_more HV.out mC) (by rw [← HN.out]; exact hl)).mono ?_; rintro e w1 ⟨rfl, hb1⟩; have HX1 : More (w.alloc (.cells #[.bool b, .slice ao n cap] 24)) w1 := mC; have HB1 := HB _ HX1; have hz1 := More.size HX1; (try simp at hz1); have hb1 := hb1; rw [HO.out]))
    go_ret
    exact ⟨ret_bool (bigOk_no HO.out).symm, mC⟩
  have HO := Lib.hid ho; clear ho
  cases b
  · skip
    have HX : More (w.alloc (.cells #[.bool false, .slice ao n cap] 24)) (w.alloc (.cells #[.bool false, .slice ao n cap] 24)) := More.refl _
    have HB : ∀ w', More (w.alloc (.cells #[.bool false, .slice ao n cap] 24)) w' → w'.cell? ⟨w.heap.size, 0, none⟩ = some (.bool false) ∧ w'.cell? ⟨w.heap.size, 1, none⟩ = some (.slice ao n cap) ∧ (∀ j, w'.frozen? ⟨w.heap.size, j, none⟩ = false) := fun w' h => ⟨box_new (by simp) h 0, box_new (by simp) h 1, fun j => box_free (by simp) h j⟩
    go_enter Tryz.func111, Tryz.ntmps111
    go_wp2_with (first | (go_at_call 112; refine (spec_NatOk _ x.2 _ (Ty.at_more HV.out mC) (by rw [← HN.out]; exact hl)).mono ?_; rintro e w1 ⟨rfl, hb1⟩; have HX1 : More (w.alloc (.cells #[.bool false, .slice ao n cap] 24)) w1 := mC; have HB1 := HB _ HX1; have hz1 := More.size HX1; (try simp at hz1); have hb1 := hb1; rw [HO.out]))
    go_ret
    exact ⟨ret_bool (bigOk_pos HO.out HBB.out).symm, mC⟩
  · by_cases h0 : n = 0
    · subst h0
      have HX : More (w.alloc (.cells #[.bool true, .slice ao 0 cap] 24)) (w.alloc (.cells #[.bool true, .slice ao 0 cap] 24)) := More.refl _
      have HB : ∀ w', More (w.alloc (.cells #[.bool true, .slice ao 0 cap] 24)) w' → w'.cell? ⟨w.heap.size, 0, none⟩ = some (.bool true) ∧ w'.cell? ⟨w.heap.size, 1, none⟩ = some (.slice ao 0 cap) ∧ (∀ j, w'.frozen? ⟨w.heap.size, j, none⟩ = false) := fun w' h => ⟨box_new (by simp) h 0, box_new (by simp) h 1, fun j => box_free (by simp) h j⟩
      go_enter Tryz.func111, Tryz.ntmps111
      go_wp2_with (first | (go_at_call 112; refine (spec_NatOk _ x.2 _ (Ty.at_more HV.out mC) (by rw [← HN.out]; exact hl)).mono ?_; rintro e w1 ⟨rfl, hb1⟩; have HX1 : More (w.alloc (.cells #[.bool true, .slice ao 0 cap] 24)) w1 := mC; have HB1 := HB _ HX1; have hz1 := More.size HX1; (try simp at hz1); have hb1 := hb1; rw [HO.out]))
      go_ret
      exact ⟨ret_bool (bigOk_nil HO.out HBB.out HN.out).symm, mC⟩
    · have h0' : ((n : Int) == 0) = false := by simp [h0]
      have h1' : (0 : Int) < (n : Int) := by omega
      have HX : More (w.alloc (.cells #[.bool true, .slice ao n cap] 24)) (w.alloc (.cells #[.bool true, .slice ao n cap] 24)) := More.refl _
      have HB : ∀ w', More (w.alloc (.cells #[.bool true, .slice ao n cap] 24)) w' → w'.cell? ⟨w.heap.size, 0, none⟩ = some (.bool true) ∧ w'.cell? ⟨w.heap.size, 1, none⟩ = some (.slice ao n cap) ∧ (∀ j, w'.frozen? ⟨w.heap.size, j, none⟩ = false) := fun w' h => ⟨box_new (by simp) h 0, box_new (by simp) h 1, fun j => box_free (by simp) h j⟩
      go_enter Tryz.func111, Tryz.ntmps111
      go_wp2_with (first | (go_at_call 112; refine (spec_NatOk _ x.2 _ (Ty.at_more HV.out mC) (by rw [← HN.out]; exact hl)).mono ?_; rintro e w1 ⟨rfl, hb1⟩; have HX1 : More (w.alloc (.cells #[.bool true, .slice ao n cap] 24)) w1 := mC; have HB1 := HB _ HX1; have hz1 := More.size HX1; (try simp at hz1); have hb1 := hb1; rw [HO.out]))
      go_ret
      exact ⟨ret_bool (by first | exact (bigOk_neg HO.out (by rw [← HN.out]; exact h0)).symm | (rw [bigOk_neg HO.out (by rw [← HN.out]; exact h0)]; simp <;> omega)), mC⟩
set_option maxRecDepth 4000 in
set_option maxHeartbeats 3200000 in
theorem impl_RatOk (b : Bool) (u v : Value) (x : QR) (w : World) (h : tRat.at w [.bool b, u, v] x) (hl : wRat x ≤ 1048576) :
    Calls Tryz.prog 47 #[.agg #[.bool b, u, v]] w fun e w' => e = .returned (.bool (ratOkB x)) ∧ More w w' := by
  obtain ⟨hsb, hm, hd⟩ := rat_split h
  obtain ⟨a1, c1, rfl⟩ := sl_len hm
  obtain ⟨a2, c2, rfl⟩ := sl_len hd
  have HM := Lib.hid hm; have HD := Lib.hid hd; have HSB := Lib.hid hsb; clear h hm hd hsb
  have hl1 : x.1.2.length ≤ 1048576 := by unfold wRat wBigInt wIntS at hl; omega
  have hl2 : x.2.length ≤ 1048576 := by unfold wRat wBigInt wIntS at hl; omega
  clear hl
  obtain ⟨n1, hn1⟩ : ∃ n, n = x.1.2.length := ⟨_, rfl⟩
  obtain ⟨n2, hn2⟩ : ∃ n, n = x.2.length := ⟨_, rfl⟩
  rw [← hn1] at HM hl1 ⊢
  rw [← hn2] at HD hl2 ⊢
  have HN1 := Lib.hid hn1; have HN2 := Lib.hid hn2; clear hn1 hn2
  rcases Bool.eq_false_or_eq_true (bigOkB x.1) with h1 | h1
  rotate_left
  · have H1 := Lib.hid h1; clear h1
    have HX : More (w.alloc (.cells #[.bool b, .slice a1 n1 c1, .slice a2 n2 c2] 26)) (w.alloc (.cells #[.bool b, .slice a1 n1 c1, .slice a2 n2 c2] 26)) := More.refl _
    have HB : ∀ w', More (w.alloc (.cells #[.bool b, .slice a1 n1 c1, .slice a2 n2 c2] 26)) w' → w'.cell? ⟨w.heap.size, 0, none⟩ = some (.bool b) ∧ w'.cell? ⟨w.heap.size, 1, none⟩ = some (.slice a1 n1 c1) ∧ w'.cell? ⟨w.heap.size, 2, none⟩ = some (.slice a2 n2 c2) ∧ (∀ j, w'.frozen? ⟨w.heap.size, j, none⟩ = false) := fun w' h => ⟨box_new (by simp) h 0, box_new (by simp) h 1, box_new (by simp) h 2, fun j => box_free (by simp) h j⟩
    go_enter Tryz.func47, Tryz.ntmps47
    go_wp2_with (first | (go_at_call 86; refine (impl_BigIntOk _ _ x.1 _ HSB.out (Ty.at_more HM.out mC) (by rw [← HN1.out]; omega)).mono ?_; rintro e w1 ⟨rfl, hb1⟩; have HX1 : More (w.alloc (.cells #[.bool b, .slice a1 n1 c1, .slice a2 n2 c2] 26)) w1 := mC; have HB1 := HB _ HX1; have hz1 := More.size HX1; (try simp at hz1); have hb1 := hb1; rw [H1.out]))
    go_ret
    exact ⟨ret_bool (Bool.eq_false_iff.2 (fun k => by have := (ratOk_parts k).1; rw [H1.out] at this; cases this)).symm, mC⟩
  have H1 := Lib.hid h1; clear h1
  rcases Bool.eq_false_or_eq_true (natOkB x.2) with h2 | h2
  rotate_left
  · have H2 := Lib.hid h2; clear h2
    have HX : More (w.alloc (.cells #[.bool b, .slice a1 n1 c1, .slice a2 n2 c2] 26)) (w.alloc (.cells #[.bool b, .slice a1 n1 c1, .slice a2 n2 c2] 26)) := More.refl _
    have HB : ∀ w', More (w.alloc (.cells #[.bool b, .slice a1 n1 c1, .slice a2 n2 c2] 26)) w' → w'.cell? ⟨w.heap.size, 0, none⟩ = some (.bool b) ∧ w'.cell? ⟨w.heap.size, 1, none⟩ = some (.slice a1 n1 c1) ∧ w'.cell? ⟨w.heap.size, 2, none⟩ = some (.slice a2 n2 c2) ∧ (∀ j, w'.frozen? ⟨w.heap.size, j, none⟩ = false) := fun w' h => ⟨box_new (by simp) h 0, box_new (by simp) h 1, box_new (by simp) h 2, fun j => box_free (by simp) h j⟩
    go_enter Tryz.func47, Tryz.ntmps47
    go_wp2_with (first | (go_at_call 86; refine (impl_BigIntOk _ _ x.1 _ HSB.out (Ty.at_more HM.out mC) (by rw [← HN1.out]; omega)).mono ?_; rintro e w1 ⟨rfl, hb1⟩; have HX1 : More (w.alloc (.cells #[.bool b, .slice a1 n1 c1, .slice a2 n2 c2] 26)) w1 := mC; have HB1 := HB _ HX1; have hz1 := More.size HX1; (try simp at hz1); have hb1 := hb1; rw [H1.out]) | (go_at_call 89; refine (impl_NatOk _ x.2 _ (Ty.at_more HD.out mC) (by rw [← HN2.out]; omega)).mono ?_; rintro e w2 ⟨rfl, hb2⟩; have HX2 : More (w.alloc (.cells #[.bool b, .slice a1 n1 c1, .slice a2 n2 c2] 26)) w2 := mC; have HB2 := HB _ HX2; have hz2 := More.size HX2; (try simp at hz2); have hb2 := hb2; rw [H2.out]))
    go_ret
    exact ⟨ret_bool (Bool.eq_false_iff.2 (fun k => by have := (ratOk_parts k).2.1; rw [H2.out] at this; cases this)).symm, mC⟩
  have H2 := Lib.hid h2; clear h2
  by_cases z2 : n2 = 0
  · subst z2
    have HX : More (w.alloc (.cells #[.bool b, .slice a1 n1 c1, .slice a2 0 c2] 26)) (w.alloc (.cells #[.bool b, .slice a1 n1 c1, .slice a2 0 c2] 26)) := More.refl _
    have HB : ∀ w', More (w.alloc (.cells #[.bool b, .slice a1 n1 c1, .slice a2 0 c2] 26)) w' → w'.cell? ⟨w.heap.size, 0, none⟩ = some (.bool b) ∧ w'.cell? ⟨w.heap.size, 1, none⟩ = some (.slice a1 n1 c1) ∧ w'.cell? ⟨w.heap.size, 2, none⟩ = some (.slice a2 0 c2) ∧ (∀ j, w'.frozen? ⟨w.heap.size, j, none⟩ = false) := fun w' h => ⟨box_new (by simp) h 0, box_new (by simp) h 1, box_new (by simp) h 2, fun j => box_free (by simp) h j⟩
    go_enter Tryz.func47, Tryz.ntmps47
    go_wp2_with (first | (go_at_call 86; refine (impl_BigIntOk _ _ x.1 _ HSB.out (Ty.at_more HM.out mC) (by rw [← HN1.out]; omega)).mono ?_; rintro e w1 ⟨rfl, hb1⟩; have HX1 : More (w.alloc (.cells #[.bool b, .slice a1 n1 c1, .slice a2 0 c2] 26)) w1 := mC; have HB1 := HB _ HX1; have hz1 := More.size HX1; (try simp at hz1); have hb1 := hb1; rw [H1.out]) | (go_at_call 89; refine (impl_NatOk _ x.2 _ (Ty.at_more HD.out mC) (by rw [← HN2.out]; omega)).mono ?_; rintro e w2 ⟨rfl, hb2⟩; have HX2 : More (w.alloc (.cells #[.bool b, .slice a1 n1 c1, .slice a2 0 c2] 26)) w2 := mC; have HB2 := HB _ HX2; have hz2 := More.size HX2; (try simp at hz2); have hb2 := hb2; rw [H2.out]))
    go_ret
    exact ⟨ret_bool (Bool.eq_false_iff.2 (fun k => (ratOk_parts k).2.2.1 HN2.out.symm)).symm, mC⟩
  have z2' : ((n2 : Int) == 0) = false := by simp [z2]
  by_cases l1 : 24 < n1
  · have l1' : (24 : Int) < (n1 : Int) := by omega
    have HX : More (w.alloc (.cells #[.bool b, .slice a1 n1 c1, .slice a2 n2 c2] 26)) (w.alloc (.cells #[.bool b, .slice a1 n1 c1, .slice a2 n2 c2] 26)) := More.refl _
    have HB : ∀ w', More (w.alloc (.cells #[.bool b, .slice a1 n1 c1, .slice a2 n2 c2] 26)) w' → w'.cell? ⟨w.heap.size, 0, none⟩ = some (.bool b) ∧ w'.cell? ⟨w.heap.size, 1, none⟩ = some (.slice a1 n1 c1) ∧ w'.cell? ⟨w.heap.size, 2, none⟩ = some (.slice a2 n2 c2) ∧ (∀ j, w'.frozen? ⟨w.heap.size, j, none⟩ = false) := fun w' h => ⟨box_new (by simp) h 0, box_new (by simp) h 1, box_new (by simp) h 2, fun j => box_free (by simp) h j⟩
    go_enter Tryz.func47, Tryz.ntmps47
    go_wp2_with (first | (go_at_call 86; refine (impl_BigIntOk _ _ x.1 _ HSB.out (Ty.at_more HM.out mC) (by rw [← HN1.out]; omega)).mono ?_; rintro e w1 ⟨rfl, hb1⟩; have HX1 : More (w.alloc (.cells #[.bool b, .slice a1 n1 c1, .slice a2 n2 c2] 26)) w1 := mC; have HB1 := HB _ HX1; have hz1 := More.size HX1; (try simp at hz1); have hb1 := hb1; rw [H1.out]) | (go_at_call 89; refine (impl_NatOk _ x.2 _ (Ty.at_more HD.out mC) (by rw [← HN2.out]; omega)).mono ?_; rintro e w2 ⟨rfl, hb2⟩; have HX2 : More (w.alloc (.cells #[.bool b, .slice a1 n1 c1, .slice a2 n2 c2] 26)) w2 := mC; have HB2 := HB _ HX2; have hz2 := More.size HX2; (try simp at hz2); have hb2 := hb2; rw [H2.out]))
    go_ret
    exact ⟨ret_bool (Bool.eq_false_iff.2 (fun k => by have := (ratOk_parts k).2.2.2.1; rw [← HN1.out] at this; omega)).symm, mC⟩
  have l1' : ¬ (24 : Int) < (n1 : Int) := by omega
  by_cases l2 : 24 < n2
  · have l2' : (24 : Int) < (n2 : Int) := by omega
    have HX : More (w.alloc (.cells #[.bool b, .slice a1 n1 c1, .slice a2 n2 c2] 26)) (w.alloc (.cells #[.bool b, .slice a1 n1 c1, .slice a2 n2 c2] 26)) := More.refl _
    have HB : ∀ w', More (w.alloc (.cells #[.bool b, .slice a1 n1 c1, .slice a2 n2 c2] 26)) w' → w'.cell? ⟨w.heap.size, 0, none⟩ = some (.bool b) ∧ w'.cell? ⟨w.heap.size, 1, none⟩ = some (.slice a1 n1 c1) ∧ w'.cell? ⟨w.heap.size, 2, none⟩ = some (.slice a2 n2 c2) ∧ (∀ j, w'.frozen? ⟨w.heap.size, j, none⟩ = false) := fun w' h => ⟨box_new (by simp) h 0, box_new (by simp) h 1, box_new (by simp) h 2, fun j => box_free (by simp) h j⟩
    go_enter Tryz.func47, Tryz.ntmps47
    go_wp2_with (first | (go_at_call 86; refine (impl_BigIntOk _ _ x.1 _ HSB.out (Ty.at_more HM.out mC) (by rw [← HN1.out]; omega)).mono ?_; rintro e w1 ⟨rfl, hb1⟩; have HX1 : More (w.alloc (.cells #[.bool b, .slice a1 n1 c1, .slice a2 n2 c2] 26)) w1 := mC; have HB1 := HB _ HX1; have hz1 := More.size HX1; (try simp at hz1); have hb1 := hb1; rw [H1.out]) | (go_at_call 89; refine (impl_NatOk _ x.2 _ (Ty.at_more HD.out mC) (by rw [← HN2.out]; omega)).mono ?_; rintro e w2 ⟨rfl, hb2⟩; have HX2 : More (w.alloc (.cells #[.bool b, .slice a1 n1 c1, .slice a2 n2 c2] 26)) w2 := mC; have HB2 := HB _ HX2; have hz2 := More.size HX2; (try simp at hz2); have hb2 := hb2; rw [H2.out]))
    go_ret
    exact ⟨ret_bool (Bool.eq_false_iff.2 (fun k => by have := (ratOk_parts k).2.2.2.2; rw [← HN2.out] at this; omega)).symm, mC⟩
  have l2' : ¬ (24 : Int) < (n2 : Int) := by omega
  obtain ⟨m, hm, hs, -⟩ := bigOk_out H1.out
  obtain ⟨-, d, hd⟩ := natOk_out H2.out
  have HMM : Hid (tInts.at w [.slice a1 n1 c1] (limbs m)) := Lib.hid (by rw [← hm]; exact HM.out)
  have HDD : Hid (tInts.at w [.slice a2 n2 c2] (limbs d)) := Lib.hid (by rw [← hd]; exact HD.out)
  have HLM : Hid ((limbs m).length ≤ 4000) := Lib.hid (by rw [← hm, ← HN1.out]; omega)
  have HLD : Hid ((limbs d).length ≤ 4000) := Lib.hid (by rw [← hd, ← HN2.out]; omega)
  have hd0 : d ≠ 0 := fun e => z2 (by rw [HN2.out, hd, e, limbs_zero]; rfl)
  have HRES : Hid (ratOkB x = decide (Nat.gcd m d = 1)) := Lib.hid (by
    have e : x = ((x.1.1, limbs m), limbs d) := by rw [← hm, ← hd]
    rw [e]
    exact ratOk_gcd hs hd0 (by rw [← hm, ← HN1.out]; omega) (by rw [← hd, ← HN2.out]; omega))
  clear hm hd hs hd0
  by_cases h1 : d = 1
  · have H3 : Hid (decide (d = 1) = true) := Lib.hid (decide_eq_true h1)
    have HR1 : Hid (ratOkB x = true) := Lib.hid (by rw [HRES.out, h1]; simp)
    clear h1
    have HX : More (w.alloc (.cells #[.bool b, .slice a1 n1 c1, .slice a2 n2 c2] 26)) (w.alloc (.cells #[.bool b, .slice a1 n1 c1, .slice a2 n2 c2] 26)) := More.refl _
    have HB : ∀ w', More (w.alloc (.cells #[.bool b, .slice a1 n1 c1, .slice a2 n2 c2] 26)) w' → w'.cell? ⟨w.heap.size, 0, none⟩ = some (.bool b) ∧ w'.cell? ⟨w.heap.size, 1, none⟩ = some (.slice a1 n1 c1) ∧ w'.cell? ⟨w.heap.size, 2, none⟩ = some (.slice a2 n2 c2) ∧ (∀ j, w'.frozen? ⟨w.heap.size, j, none⟩ = false) := fun w' h => ⟨box_new (by simp) h 0, box_new (by simp) h 1, box_new (by simp) h 2, fun j => box_free (by simp) h j⟩
    go_enter Tryz.func47, Tryz.ntmps47
    go_wp2_with (first | (go_at_call 86; refine (impl_BigIntOk _ _ x.1 _ HSB.out (Ty.at_more HM.out mC) (by rw [← HN1.out]; omega)).mono ?_; rintro e w1 ⟨rfl, hb1⟩; have HX1 : More (w.alloc (.cells #[.bool b, .slice a1 n1 c1, .slice a2 n2 c2] 26)) w1 := mC; have HB1 := HB _ HX1; have hz1 := More.size HX1; (try simp at hz1); have hb1 := hb1; rw [H1.out]) | (go_at_call 89; refine (impl_NatOk _ x.2 _ (Ty.at_more HD.out mC) (by rw [← HN2.out]; omega)).mono ?_; rintro e w2 ⟨rfl, hb2⟩; have HX2 : More (w.alloc (.cells #[.bool b, .slice a1 n1 c1, .slice a2 n2 c2] 26)) w2 := mC; have HB2 := HB _ HX2; have hz2 := More.size HX2; (try simp at hz2); have hb2 := hb2; rw [H2.out]) | (go_at_call 64; (with_reducible refine (impl_isOne (.slice a2 n2 c2) d _ (Ty.at_more HDD.out mC)).mono ?_); rintro e w3 ⟨rfl, hb3⟩; have HX3 : More (w.alloc (.cells #[.bool b, .slice a1 n1 c1, .slice a2 n2 c2] 26)) w3 := mC; have HB3 := HB _ HX3; have hz3 := More.size HX3; (try simp at hz3); have hb3 := hb3; rw [H3.out]))
    go_ret
    exact ⟨ret_bool HR1.out.symm, mC⟩
  have H3 : Hid (decide (d = 1) = false) := Lib.hid (decide_eq_false h1)
  clear h1
  have HX : More (w.alloc (.cells #[.bool b, .slice a1 n1 c1, .slice a2 n2 c2] 26)) (w.alloc (.cells #[.bool b, .slice a1 n1 c1, .slice a2 n2 c2] 26)) := More.refl _
  have HB : ∀ w', More (w.alloc (.cells #[.bool b, .slice a1 n1 c1, .slice a2 n2 c2] 26)) w' → w'.cell? ⟨w.heap.size, 0, none⟩ = some (.bool b) ∧ w'.cell? ⟨w.heap.size, 1, none⟩ = some (.slice a1 n1 c1) ∧ w'.cell? ⟨w.heap.size, 2, none⟩ = some (.slice a2 n2 c2) ∧ (∀ j, w'.frozen? ⟨w.heap.size, j, none⟩ = false) := fun w' h => ⟨box_new (by simp) h 0, box_new (by simp) h 1, box_new (by simp) h 2, fun j => box_free (by simp) h j⟩
  go_enter Tryz.func47, Tryz.ntmps47
  go_wp2_with (first | (go_at_call 86; refine (impl_BigIntOk _ _ x.1 _ HSB.out (Ty.at_more HM.out mC) (by rw [← HN1.out]; omega)).mono ?_; rintro e w1 ⟨rfl, hb1⟩; have HX1 : More (w.alloc (.cells #[.bool b, .slice a1 n1 c1, .slice a2 n2 c2] 26)) w1 := mC; have HB1 := HB _ HX1; have hz1 := More.size HX1; (try simp at hz1); have hb1 := hb1; rw [H1.out]) | (go_at_call 89; refine (impl_NatOk _ x.2 _ (Ty.at_more HD.out mC) (by rw [← HN2.out]; omega)).mono ?_; rintro e w2 ⟨rfl, hb2⟩; have HX2 : More (w.alloc (.cells #[.bool b, .slice a1 n1 c1, .slice a2 n2 c2] 26)) w2 := mC; have HB2 := HB _ HX2; have hz2 := More.size HX2; (try simp at hz2); have hb2 := hb2; rw [H2.out]) | (go_at_call 64; (with_reducible refine (impl_isOne (.slice a2 n2 c2) d _ (Ty.at_more HDD.out mC)).mono ?_); rintro e w3 ⟨rfl, hb3⟩; have HX3 : More (w.alloc (.cells #[.bool b, .slice a1 n1 c1, .slice a2 n2 c2] 26)) w3 := mC; have HB3 := HB _ HX3; have hz3 := More.size HX3; (try simp at hz3); have hb3 := hb3; rw [H3.out]) | (go_at_call 90; refine (impl_natGcd _ _ m d _ (Ty.at_more HMM.out mC) (Ty.at_more HDD.out mC) HLM.out HLD.out).mono ?_; rintro e w4 ⟨u4, rfl, hb4, g4⟩; obtain ⟨ga, gn, gc, rfl⟩ := sh1 g4; have G4 := Lib.hid g4; clear g4; have HX4 : More (w.alloc (.cells #[.bool b, .slice a1 n1 c1, .slice a2 n2 c2] 26)) w4 := mC; have HB4 := HB _ HX4; have hz4 := More.size HX4; (try simp at hz4); have hb4 := hb4) | (go_at_call 64; (with_reducible refine (impl_isOne (.slice ga gn gc) (Nat.gcd m d) _ (Ty.at_more G4.out mC)).mono ?_); rintro e w5 ⟨rfl, hb5⟩; have HX5 : More (w.alloc (.cells #[.bool b, .slice a1 n1 c1, .slice a2 n2 c2] 26)) w5 := mC; have HB5 := HB _ HX5; have hz5 := More.size HX5; (try simp at hz5); have hb5 := hb5))
  go_ret
  exact ⟨ret_bool HRES.out.symm, mC⟩
set_option maxRecDepth 4000 in
set_option maxHeartbeats 3200000 in
theorem spec_RatOk (b : Bool) (u v : Value) (x : QR) (w : World) (h : tRat.at w [.bool b, u, v] x) (hl : wRat x ≤ 1048576) :
    Calls Tryz.prog 80 #[.agg #[.bool b, u, v]] w fun e w' => e = .returned (.bool (ratOkB x)) ∧ More w w' := by
  obtain ⟨hsb, hm, hd⟩ := rat_split h
  obtain ⟨a1, c1, rfl⟩ := sl_len hm
  obtain ⟨a2, c2, rfl⟩ := sl_len hd
  have HM := Lib.hid hm; have HD := Lib.hid hd; have HSB := Lib.hid hsb; clear h hm hd hsb
  have hl1 : x.1.2.length ≤ 1048576 := by unfold wRat wBigInt wIntS at hl; omega
  have hl2 : x.2.length ≤ 1048576 := by unfold wRat wBigInt wIntS at hl; omega
  clear hl
  obtain ⟨n1, hn1⟩ : ∃ n, n = x.1.2.length := ⟨_, rfl⟩
  obtain ⟨n2, hn2⟩ : ∃ n, n = x.2.length := ⟨_, rfl⟩
  rw [← hn1] at HM hl1 ⊢
  rw [← hn2] at HD hl2 ⊢
  have HN1 := Lib.hid hn1; have HN2 := Lib.hid hn2; clear hn1 hn2
  rcases Bool.eq_false_or_eq_true (bigOkB x.1) with h1 | h1
  rotate_left
  · have H1 := Lib.hid h1; clear h1
    have HX : More (w.alloc (.cells #[.bool b, .slice a1 n1 c1, .slice a2 n2 c2] 26)) (w.alloc (.cells #[.bool b, .slice a1 n1 c1, .slice a2 n2 c2] 26)) := More.refl _
    have HB : ∀ w', More (w.alloc (.cells #[.bool b, .slice a1 n1 c1, .slice a2 n2 c2] 26)) w' → w'.cell? ⟨w.heap.size, 0, none⟩ = some (.bool b) ∧ w'.cell? ⟨w.heap.size, 1, none⟩ = some (.slice a1 n1 c1) ∧ w'.cell? ⟨w.heap.size, 2, none⟩ = some (.slice a2 n2 c2) ∧ (∀ j, w'.frozen? ⟨w.heap.size, j, none⟩ = false) := fun w' h => ⟨box_new (by simp) h 0, box_new (by simp) h 1, box_new (by simp) h 2, fun j => box_free (by simp) h j⟩
    go_enter Tryz.func80, Tryz.ntmps80
    go_wp2_with (first | (go_at_call 111; refine (spec_BigIntOk _ _ x.1 _ HSB.out (Ty.at_more HM.out mC) (by rw [← HN1.out]; omega)).mono ?_; rintro e w1 ⟨rfl, hb1⟩; have HX1 : More (w.alloc (.cells #[.bool b, .slice a1 n1 c1, .slice a2 n2 c2] 26)) w1 := mC; have HB1 := HB _ HX1; have hz1 := More.size HX1; (try simp at hz1); have hb1 := hb1; rw [H1.out]))
    go_ret
    exact ⟨ret_bool (Bool.eq_false_iff.2 (fun k => by have := (ratOk_parts k).1; rw [H1.out] at this; cases this)).symm, mC⟩
  have H1 := Lib.hid h1; clear h1
  rcases Bool.eq_false_or_eq_true (natOkB x.2) with h2 | h2
  rotate_left
  · have H2 := Lib.hid h2; clear h2
    have HX : More (w.alloc (.cells #[.bool b, .slice a1 n1 c1, .slice a2 n2 c2] 26)) (w.alloc (.cells #[.bool b, .slice a1 n1 c1, .slice a2 n2 c2] 26)) := More.refl _
    have HB : ∀ w', More (w.alloc (.cells #[.bool b, .slice a1 n1 c1, .slice a2 n2 c2] 26)) w' → w'.cell? ⟨w.heap.size, 0, none⟩ = some (.bool b) ∧ w'.cell? ⟨w.heap.size, 1, none⟩ = some (.slice a1 n1 c1) ∧ w'.cell? ⟨w.heap.size, 2, none⟩ = some (.slice a2 n2 c2) ∧ (∀ j, w'.frozen? ⟨w.heap.size, j, none⟩ = false) := fun w' h => ⟨box_new (by simp) h 0, box_new (by simp) h 1, box_new (by simp) h 2, fun j => box_free (by simp) h j⟩
    go_enter Tryz.func80, Tryz.ntmps80
    go_wp2_with (first | (go_at_call 111; refine (spec_BigIntOk _ _ x.1 _ HSB.out (Ty.at_more HM.out mC) (by rw [← HN1.out]; omega)).mono ?_; rintro e w1 ⟨rfl, hb1⟩; have HX1 : More (w.alloc (.cells #[.bool b, .slice a1 n1 c1, .slice a2 n2 c2] 26)) w1 := mC; have HB1 := HB _ HX1; have hz1 := More.size HX1; (try simp at hz1); have hb1 := hb1; rw [H1.out]) | (go_at_call 112; refine (spec_NatOk _ x.2 _ (Ty.at_more HD.out mC) (by rw [← HN2.out]; omega)).mono ?_; rintro e w2 ⟨rfl, hb2⟩; have HX2 : More (w.alloc (.cells #[.bool b, .slice a1 n1 c1, .slice a2 n2 c2] 26)) w2 := mC; have HB2 := HB _ HX2; have hz2 := More.size HX2; (try simp at hz2); have hb2 := hb2; rw [H2.out]))
    go_ret
    exact ⟨ret_bool (Bool.eq_false_iff.2 (fun k => by have := (ratOk_parts k).2.1; rw [H2.out] at this; cases this)).symm, mC⟩
  have H2 := Lib.hid h2; clear h2
  by_cases z2 : n2 = 0
  · subst z2
    have HX : More (w.alloc (.cells #[.bool b, .slice a1 n1 c1, .slice a2 0 c2] 26)) (w.alloc (.cells #[.bool b, .slice a1 n1 c1, .slice a2 0 c2] 26)) := More.refl _
    have HB : ∀ w', More (w.alloc (.cells #[.bool b, .slice a1 n1 c1, .slice a2 0 c2] 26)) w' → w'.cell? ⟨w.heap.size, 0, none⟩ = some (.bool b) ∧ w'.cell? ⟨w.heap.size, 1, none⟩ = some (.slice a1 n1 c1) ∧ w'.cell? ⟨w.heap.size, 2, none⟩ = some (.slice a2 0 c2) ∧ (∀ j, w'.frozen? ⟨w.heap.size, j, none⟩ = false) := fun w' h => ⟨box_new (by simp) h 0, box_new (by simp) h 1, box_new (by simp) h 2, fun j => box_free (by simp) h j⟩
    go_enter Tryz.func80, Tryz.ntmps80
    go_wp2_with (first | (go_at_call 111; refine (spec_BigIntOk _ _ x.1 _ HSB.out (Ty.at_more HM.out mC) (by rw [← HN1.out]; omega)).mono ?_; rintro e w1 ⟨rfl, hb1⟩; have HX1 : More (w.alloc (.cells #[.bool b, .slice a1 n1 c1, .slice a2 0 c2] 26)) w1 := mC; have HB1 := HB _ HX1; have hz1 := More.size HX1; (try simp at hz1); have hb1 := hb1; rw [H1.out]) | (go_at_call 112; refine (spec_NatOk _ x.2 _ (Ty.at_more HD.out mC) (by rw [← HN2.out]; omega)).mono ?_; rintro e w2 ⟨rfl, hb2⟩; have HX2 : More (w.alloc (.cells #[.bool b, .slice a1 n1 c1, .slice a2 0 c2] 26)) w2 := mC; have HB2 := HB _ HX2; have hz2 := More.size HX2; (try simp at hz2); have hb2 := hb2; rw [H2.out]))
    go_ret
    exact ⟨ret_bool (Bool.eq_false_iff.2 (fun k => (ratOk_parts k).2.2.1 HN2.out.symm)).symm, mC⟩
  have z2' : ((n2 : Int) == 0) = false := by simp [z2]
  by_cases l2 : 24 < n2
  · have l2' : (24 : Int) < (n2 : Int) := by omega
    have HX : More (w.alloc (.cells #[.bool b, .slice a1 n1 c1, .slice a2 n2 c2] 26)) (w.alloc (.cells #[.bool b, .slice a1 n1 c1, .slice a2 n2 c2] 26)) := More.refl _
    have HB : ∀ w', More (w.alloc (.cells #[.bool b, .slice a1 n1 c1, .slice a2 n2 c2] 26)) w' → w'.cell? ⟨w.heap.size, 0, none⟩ = some (.bool b) ∧ w'.cell? ⟨w.heap.size, 1, none⟩ = some (.slice a1 n1 c1) ∧ w'.cell? ⟨w.heap.size, 2, none⟩ = some (.slice a2 n2 c2) ∧ (∀ j, w'.frozen? ⟨w.heap.size, j, none⟩ = false) := fun w' h => ⟨box_new (by simp) h 0, box_new (by simp) h 1, box_new (by simp) h 2, fun j => box_free (by simp) h j⟩
    go_enter Tryz.func80, Tryz.ntmps80
    go_wp2_with (first | (go_at_call 111; refine (spec_BigIntOk _ _ x.1 _ HSB.out (Ty.at_more HM.out mC) (by rw [← HN1.out]; omega)).mono ?_; rintro e w1 ⟨rfl, hb1⟩; have HX1 : More (w.alloc (.cells #[.bool b, .slice a1 n1 c1, .slice a2 n2 c2] 26)) w1 := mC; have HB1 := HB _ HX1; have hz1 := More.size HX1; (try simp at hz1); have hb1 := hb1; rw [H1.out]) | (go_at_call 112; refine (spec_NatOk _ x.2 _ (Ty.at_more HD.out mC) (by rw [← HN2.out]; omega)).mono ?_; rintro e w2 ⟨rfl, hb2⟩; have HX2 : More (w.alloc (.cells #[.bool b, .slice a1 n1 c1, .slice a2 n2 c2] 26)) w2 := mC; have HB2 := HB _ HX2; have hz2 := More.size HX2; (try simp at hz2); have hb2 := hb2; rw [H2.out]))
    go_ret
    exact ⟨ret_bool (Bool.eq_false_iff.2 (fun k => by have := (ratOk_parts k).2.2.2.2; rw [← HN2.out] at this; omega)).symm, mC⟩
  have l2' : ¬ (24 : Int) < (n2 : Int) := by omega
  by_cases l1 : 24 < n1
  · have l1' : (24 : Int) < (n1 : Int) := by omega
    have HX : More (w.alloc (.cells #[.bool b, .slice a1 n1 c1, .slice a2 n2 c2] 26)) (w.alloc (.cells #[.bool b, .slice a1 n1 c1, .slice a2 n2 c2] 26)) := More.refl _
    have HB : ∀ w', More (w.alloc (.cells #[.bool b, .slice a1 n1 c1, .slice a2 n2 c2] 26)) w' → w'.cell? ⟨w.heap.size, 0, none⟩ = some (.bool b) ∧ w'.cell? ⟨w.heap.size, 1, none⟩ = some (.slice a1 n1 c1) ∧ w'.cell? ⟨w.heap.size, 2, none⟩ = some (.slice a2 n2 c2) ∧ (∀ j, w'.frozen? ⟨w.heap.size, j, none⟩ = false) := fun w' h => ⟨box_new (by simp) h 0, box_new (by simp) h 1, box_new (by simp) h 2, fun j => box_free (by simp) h j⟩
    go_enter Tryz.func80, Tryz.ntmps80
    go_wp2_with (first | (go_at_call 111; refine (spec_BigIntOk _ _ x.1 _ HSB.out (Ty.at_more HM.out mC) (by rw [← HN1.out]; omega)).mono ?_; rintro e w1 ⟨rfl, hb1⟩; have HX1 : More (w.alloc (.cells #[.bool b, .slice a1 n1 c1, .slice a2 n2 c2] 26)) w1 := mC; have HB1 := HB _ HX1; have hz1 := More.size HX1; (try simp at hz1); have hb1 := hb1; rw [H1.out]) | (go_at_call 112; refine (spec_NatOk _ x.2 _ (Ty.at_more HD.out mC) (by rw [← HN2.out]; omega)).mono ?_; rintro e w2 ⟨rfl, hb2⟩; have HX2 : More (w.alloc (.cells #[.bool b, .slice a1 n1 c1, .slice a2 n2 c2] 26)) w2 := mC; have HB2 := HB _ HX2; have hz2 := More.size HX2; (try simp at hz2); have hb2 := hb2; rw [H2.out]))
    go_ret
    exact ⟨ret_bool (Bool.eq_false_iff.2 (fun k => by have := (ratOk_parts k).2.2.2.1; rw [← HN1.out] at this; omega)).symm, mC⟩
  have l1' : ¬ (24 : Int) < (n1 : Int) := by omega
  obtain ⟨m, hm, hs, -⟩ := bigOk_out H1.out
  obtain ⟨-, d, hd⟩ := natOk_out H2.out
  have HMM : Hid (tInts.at w [.slice a1 n1 c1] (limbs m)) := Lib.hid (by rw [← hm]; exact HM.out)
  have HDD : Hid (tInts.at w [.slice a2 n2 c2] (limbs d)) := Lib.hid (by rw [← hd]; exact HD.out)
  have HLM : Hid ((limbs m).length ≤ 4000) := Lib.hid (by rw [← hm, ← HN1.out]; omega)
  have HLD : Hid ((limbs d).length ≤ 4000) := Lib.hid (by rw [← hd, ← HN2.out]; omega)
  have hd0 : d ≠ 0 := fun e => z2 (by rw [HN2.out, hd, e, limbs_zero]; rfl)
  have HRES : Hid (ratOkB x = decide (Nat.gcd m d = 1)) := Lib.hid (by
    have e : x = ((x.1.1, limbs m), limbs d) := by rw [← hm, ← hd]
    rw [e]
    exact ratOk_gcd hs hd0 (by rw [← hm, ← HN1.out]; omega) (by rw [← hd, ← HN2.out]; omega))
  clear hm hd hs hd0
  have HX : More (w.alloc (.cells #[.bool b, .slice a1 n1 c1, .slice a2 n2 c2] 26)) (w.alloc (.cells #[.bool b, .slice a1 n1 c1, .slice a2 n2 c2] 26)) := More.refl _
  have HB : ∀ w', More (w.alloc (.cells #[.bool b, .slice a1 n1 c1, .slice a2 n2 c2] 26)) w' → w'.cell? ⟨w.heap.size, 0, none⟩ = some (.bool b) ∧ w'.cell? ⟨w.heap.size, 1, none⟩ = some (.slice a1 n1 c1) ∧ w'.cell? ⟨w.heap.size, 2, none⟩ = some (.slice a2 n2 c2) ∧ (∀ j, w'.frozen? ⟨w.heap.size, j, none⟩ = false) := fun w' h => ⟨box_new (by simp) h 0, box_new (by simp) h 1, box_new (by simp) h 2, fun j => box_free (by simp) h j⟩
  go_enter Tryz.func80, Tryz.ntmps80
  go_wp2_with (first | (go_at_call 111; refine (spec_BigIntOk _ _ x.1 _ HSB.out (Ty.at_more HM.out mC) (by rw [← HN1.out]; omega)).mono ?_; rintro e w1 ⟨rfl, hb1⟩; have HX1 : More (w.alloc (.cells #[.bool b, .slice a1 n1 c1, .slice a2 n2 c2] 26)) w1 := mC; have HB1 := HB _ HX1; have hz1 := More.size HX1; (try simp at hz1); have hb1 := hb1; rw [H1.out]) | (go_at_call 112; refine (spec_NatOk _ x.2 _ (Ty.at_more HD.out mC) (by rw [← HN2.out]; omega)).mono ?_; rintro e w2 ⟨rfl, hb2⟩; have HX2 : More (w.alloc (.cells #[.bool b, .slice a1 n1 c1, .slice a2 n2 c2] 26)) w2 := mC; have HB2 := HB _ HX2; have hz2 := More.size HX2; (try simp at hz2); have hb2 := hb2; rw [H2.out]) | (go_at_call 113; refine (spec_l02Gcd _ _ m d _ (Ty.at_more HMM.out mC) (Ty.at_more HDD.out mC) HLM.out HLD.out).mono ?_; rintro e w4 ⟨u4, rfl, hb4, g4⟩; obtain ⟨ga, gn, gc, rfl⟩ := sh1 g4; have G4 := Lib.hid g4; clear g4; have HX4 : More (w.alloc (.cells #[.bool b, .slice a1 n1 c1, .slice a2 n2 c2] 26)) w4 := mC; have HB4 := HB _ HX4; have hz4 := More.size HX4; (try simp at hz4); have hb4 := hb4) | (go_at_call 81; (with_reducible refine (spec_l04One (.slice ga gn gc) (Nat.gcd m d) _ (Ty.at_more G4.out mC)).mono ?_); rintro e w5 ⟨rfl, hb5⟩; have HX5 : More (w.alloc (.cells #[.bool b, .slice a1 n1 c1, .slice a2 n2 c2] 26)) w5 := mC; have HB5 := HB _ HX5; have hz5 := More.size HX5; (try simp at hz5); have hb5 := hb5))
  go_ret
  exact ⟨ret_bool HRES.out.symm, mC⟩
end Go.Proofs.YtnbefpfijaimjaaGreatDoor
