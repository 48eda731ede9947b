/- Several texts laid together; each has its own word at its head. -/
import Derived.Test.YtnbefpfijaimjaaGreatDoorGOk
import Derived.Test.YtnbefpfijaimjaaGreatDoorGBase
import Derived.Deep.RegionHeld3
/- Comparing raw fractions; lists of fractions. -/
namespace Go.Proofs.YtnbefpfijaimjaaGreatDoor
open Go.RowKit
noncomputable def rCmp (x y : QR) : Int := frCmp (frOf x) (frOf y)
theorem rCmp_range (x y : QR) : -1 ≤ rCmp x y ∧ rCmp x y ≤ 1 := by
  unfold rCmp frCmp cmpI
  split
  · omega
  split
  · omega
  split <;> omega
/-- A built slice of things that hold memory. -/
theorem lit_at {α : Type} {S : Ty α} {w : World} {C : Array Value} {e : TypeId} {N n : Nat} (cs : List (List Value × α)) (hN : w.heap.size = N) (hC : C.toList = cs.flatMap Prod.fst) (hn : cs.length = n) (hs : n ≤ 1048576)
    (h : ∀ p ∈ cs, p.1.length = S.size ∧ S.at w p.1 p.2) : (tSlice S).at (w.alloc (.cells C e)) [.slice (some ⟨N, 0, none⟩) n n] (cs.map Prod.snd) := by
  subst hN
  subst hn
  refine ⟨some ⟨w.heap.size, 0, none⟩, cs.length, by simp, by simp, by unfold maxLen; omega, (fun e => by cases e), fun hl => ⟨w.heap.size, 0, rfl, trivial, by simp, fun k x hx => ?_⟩⟩
  rw [List.getElem?_map] at hx
  obtain ⟨p, hp, rfl⟩ := Option.map_eq_some_iff.1 hx
  refine ⟨p.1, Ty.at_more (h p (List.mem_of_getElem? hp)).2 (Turns.more ((Turns.refl [] _).alloc _)), fun j v hv => ?_⟩
  rw [box_new rfl (More.refl _), ← Array.getElem?_toList, hC]
  have hk := flatMap_chunk (f := Prod.fst) (s := S.size) cs (fun p hp => (h p hp).1) k p hp
  rw [← hk, List.getElem?_take] at hv
  split at hv
  · rw [List.getElem?_drop] at hv
    simpa using hv
  · cases hv
noncomputable def badR (x : QR) : Bool := !ratOkB x
theorem rats_small {l : List QR} (h : wRatS l ≤ 1048576) : l.length ≤ 1048576 ∧ ∀ x ∈ l, wRat x ≤ 1048576 := by
  have h : l.length + wsum wRat l ≤ 1048576 := h
  refine ⟨by omega, fun x hx => ?_⟩
  obtain ⟨i, hi, rfl⟩ := List.getElem_of_mem hx
  have := wsum_el (f := wRat) (List.getElem?_eq_getElem hi)
  omega
end Go.Proofs.YtnbefpfijaimjaaGreatDoor
/- Whole numbers as fractions. -/
namespace Go.Proofs.YtnbefpfijaimjaaGreatDoor
open Go.RowKit
theorem frInt_good {n : Int} (h : In64 n) : Good (frInt n) := (frInt_vd h).good (by show (1 : Nat) ≠ 0; decide)
theorem limbs_int {n : Int} (h : In64 n) : (limbs n.natAbs).length ≤ 3 := by
  have h1 := h.out
  refine limbs_len_le.2 ?_
  have h3 : bp 3 = 1000000000000000000000000000 := by decide
  rw [h3]
  omega
set_option maxRecDepth 4000 in
set_option maxHeartbeats 3200000 in
theorem impl_bigOf (n : Int) (w : World) (hn : In64 n) :
    Calls Tryz.prog 110 #[.int .i64 n] w fun e w' => ∃ u, e = .returned (.agg #[.bool (decide (n < 0)), u]) ∧ More w w' ∧ tInts.at w' [u] (limbs n.natAbs) := by
  have hr := In64.out hn
  clear hn
  by_cases h0 : 0 ≤ n
  · obtain ⟨N, rfl⟩ := Int.eq_ofNat_of_zero_le h0
    rw [show decide ((N : Int) < 0) = false from by simp, Int.natAbs_natCast]
    have HN : Hid (N < 9223372036854775808) := Lib.hid (by omega)
    have HX : More (w.alloc (.cells #[.bool false, .slice none 0 0] 24)) (w.alloc (.cells #[.bool false, .slice none 0 0] 24)) := More.refl _
    have HB : ∀ w', More (w.alloc (.cells #[.bool false, .slice none 0 0] 24)) w' → w'.cell? ⟨w.heap.size, 0, none⟩ = some (.bool false) ∧ w'.cell? ⟨w.heap.size, 1, none⟩ = some (.slice none 0 0) ∧ (∀ j, w'.frozen? ⟨w.heap.size, j, none⟩ = false) := fun w' h => ⟨box_new (by simp) h 0, box_new (by simp) h 1, fun j => box_free (by simp) h j⟩
    go_enter Tryz.func110, Tryz.ntmps110
    go_wp2_with (first | (go_at_call 148; (with_reducible refine (impl_natOf N _ HN.out).mono ?_); rintro e w1 ⟨u1, rfl, hb1, g1⟩; obtain ⟨x1a, x1n, x1c, rfl⟩ := sh1 g1; have G1 := Lib.hid g1; clear g1; have HX1 : More (w.alloc (.cells #[.bool false, .slice none 0 0] 24)) w1 := mC; have HB1 := HB _ HX1; have hz1 := More.size HX1; (try simp at hz1); have hb1 := hb1))
    refine bodyPost_ret (v := .agg #[.bool false, .slice x1a x1n x1c]) ?_ rfl ?_
    · simp [results, Tryz.results110, go_sem, *]
    · exact ⟨_, rfl, mC2, ints_set2 (Ty.at_more G1.out mC) (HB _ HX1).1 (HB _ HX1).2.1⟩
  by_cases hm : n = -9223372036854775808
  · subst hm
    rw [show decide ((-9223372036854775808 : Int) < 0) = true from rfl]
    have HM : Hid ((-9223372036854775808 : Int).natAbs = 9223372036854775807 + 1) := Lib.hid rfl
    rw [HM.out]
    have H1 : Hid ((1 : Nat) < 9223372036854775808) := Lib.hid (by decide)
    have H2 : Hid ((9223372036854775807 : Nat) < 9223372036854775808) := Lib.hid (by decide)
    have L1 : Hid ((limbs 1).length ≤ 4096) := Lib.hid (by rw [limbs_1]; decide)
    have L2 : Hid ((limbs 9223372036854775807).length ≤ 4096) := Lib.hid (Nat.le_trans (limbs_int (n := 9223372036854775807) (In64.mk (by decide))) (by decide))
    obtain ⟨M, hM⟩ : ∃ M, M = 9223372036854775807 := ⟨_, rfl⟩
    rw [← hM] at H2 L2 ⊢
    have EM : Hid (∀ w, Calls Tryz.prog 148 #[.int .i64 9223372036854775807] w fun e w' => ∃ v', e = .returned v' ∧ More w w' ∧ tInts.at w' [v'] (limbs M)) := Lib.hid (fun w => by have h := impl_natOf M w H2.out; rw [hM] at h ⊢; exact h)
    have E1 : Hid (∀ w, Calls Tryz.prog 148 #[.int .i64 1] w fun e w' => ∃ v', e = .returned v' ∧ More w w' ∧ tInts.at w' [v'] (limbs 1)) := Lib.hid (fun w => impl_natOf 1 w H1.out)
    clear hM
    have HX : More (w.alloc (.cells #[.bool false, .slice none 0 0] 24)) (w.alloc (.cells #[.bool false, .slice none 0 0] 24)) := More.refl _
    have HB : ∀ w', More (w.alloc (.cells #[.bool false, .slice none 0 0] 24)) w' → w'.cell? ⟨w.heap.size, 0, none⟩ = some (.bool false) ∧ w'.cell? ⟨w.heap.size, 1, none⟩ = some (.slice none 0 0) ∧ (∀ j, w'.frozen? ⟨w.heap.size, j, none⟩ = false) := fun w' h => ⟨box_new (by simp) h 0, box_new (by simp) h 1, fun j => box_free (by simp) h j⟩
    go_enter Tryz.func110, Tryz.ntmps110
    go_wp2_with (first | (go_at_call 148; (with_reducible refine (EM.out _).mono ?_); rintro e w1 ⟨u1, rfl, hb1, g1⟩; obtain ⟨x1a, x1n, x1c, rfl⟩ := sh1 g1; have G1 := Lib.hid g1; clear g1; have HX1 : More (w.alloc (.cells #[.bool false, .slice none 0 0] 24)) w1 := mC; have HB1 := HB _ HX1; have hz1 := More.size HX1; (try simp at hz1); have hb1 := hb1) | (go_at_call 148; (with_reducible refine (E1.out _).mono ?_); rintro e w2 ⟨u2, rfl, hb2, g2⟩; obtain ⟨x2a, x2n, x2c, rfl⟩ := sh1 g2; have G2 := Lib.hid g2; clear g2; have HX2 : More (w.alloc (.cells #[.bool false, .slice none 0 0] 24)) w2 := mC; have HB2 := HB _ HX2; have hz2 := More.size HX2; (try simp at hz2); have hb2 := hb2) | (go_at_call 141; (with_reducible refine (impl_natAdd _ _ M 1 _ (Ty.at_more G1.out mC) (Ty.at_more G2.out mC) L2.out L1.out).mono ?_); rintro e w3 ⟨u3, rfl, hb3, g3⟩; obtain ⟨x3a, x3n, x3c, rfl⟩ := sh1 g3; have G3 := Lib.hid g3; clear g3; have HX3 : More (w.alloc (.cells #[.bool false, .slice none 0 0] 24)) w3 := mC; have HB3 := HB _ HX3; have hz3 := More.size HX3; (try simp at hz3); have hb3 := hb3))
    refine bodyPost_ret (v := .agg #[.bool true, .slice x3a x3n x3c]) ?_ rfl ?_
    · simp [results, Tryz.results110, go_sem, *]
    · exact ⟨_, rfl, mC2, ints_set2 (Ty.at_more G3.out mC) (HB _ HX3).1 (HB _ HX3).2.1⟩
  obtain ⟨N, rfl⟩ : ∃ N : Nat, n = -(N : Int) := ⟨n.natAbs, by omega⟩
  have HN : Hid (N < 9223372036854775808) := Lib.hid (by omega)
  rw [show decide (-(N : Int) < 0) = true from decide_eq_true (by omega), Int.natAbs_neg, Int.natAbs_natCast]
  have hm' : (-(N : Int) == -9223372036854775808) = false := by simp <;> omega
  have HX : More (w.alloc (.cells #[.bool false, .slice none 0 0] 24)) (w.alloc (.cells #[.bool false, .slice none 0 0] 24)) := More.refl _
  have HB : ∀ w', More (w.alloc (.cells #[.bool false, .slice none 0 0] 24)) w' → w'.cell? ⟨w.heap.size, 0, none⟩ = some (.bool false) ∧ w'.cell? ⟨w.heap.size, 1, none⟩ = some (.slice none 0 0) ∧ (∀ j, w'.frozen? ⟨w.heap.size, j, none⟩ = false) := fun w' h => ⟨box_new (by simp) h 0, box_new (by simp) h 1, fun j => box_free (by simp) h j⟩
  go_enter Tryz.func110, Tryz.ntmps110
  go_wp2_with (first | (go_at_call 148; (with_reducible refine (impl_natOf N _ HN.out).mono ?_); rintro e w1 ⟨u1, rfl, hb1, g1⟩; obtain ⟨x1a, x1n, x1c, rfl⟩ := sh1 g1; have G1 := Lib.hid g1; clear g1; have HX1 : More (w.alloc (.cells #[.bool false, .slice none 0 0] 24)) w1 := mC; have HB1 := HB _ HX1; have hz1 := More.size HX1; (try simp at hz1); have hb1 := hb1))
  refine bodyPost_ret (v := .agg #[.bool true, .slice x1a x1n x1c]) ?_ rfl ?_
  · simp [results, Tryz.results110, go_sem, *]
  · exact ⟨_, rfl, mC2, ints_set2 (Ty.at_more G1.out mC) (HB _ HX1).1 (HB _ HX1).2.1⟩
set_option maxRecDepth 4000 in
set_option maxHeartbeats 3200000 in
theorem spec_BigIntOf (n : Int) (w : World) (hn : In64 n) :
    Calls Tryz.prog 94 #[.int .i64 n] w fun e w' => ∃ u, e = .returned (.agg #[.bool (decide (n < 0)), u]) ∧ More w w' ∧ tInts.at w' [u] (limbs n.natAbs) := by
  have hr := In64.out hn
  clear hn
  by_cases h0 : 0 ≤ n
  · obtain ⟨N, rfl⟩ := Int.eq_ofNat_of_zero_le h0
    have ES : Hid (decide ((N : Int) < 0) = decide (sgn false N < 0)) := Lib.hid rfl
    rw [Int.natAbs_natCast, ES.out]
    have HN : Hid (N < 9223372036854775808) := Lib.hid (by omega)
    have HL : Hid ((limbs N).length ≤ 60) := Lib.hid (by have := limbs_int (n := (N : Int)) (In64.mk (by omega)); rw [Int.natAbs_natCast] at this; omega)
    have hm' : ((N : Int) == -9223372036854775808) = false := by simp <;> omega
    have h0' : ¬ (N : Int) < 0 := by omega
    have HX : More (w.alloc (.cells #[.bool false, .slice none 0 0] 24)) (w.alloc (.cells #[.bool false, .slice none 0 0] 24)) := More.refl _
    have HB : ∀ w', More (w.alloc (.cells #[.bool false, .slice none 0 0] 24)) w' → w'.cell? ⟨w.heap.size, 0, none⟩ = some (.bool false) ∧ w'.cell? ⟨w.heap.size, 1, none⟩ = some (.slice none 0 0) ∧ (∀ j, w'.frozen? ⟨w.heap.size, j, none⟩ = false) := fun w' h => ⟨box_new (by simp) h 0, box_new (by simp) h 1, fun j => box_free (by simp) h j⟩
    go_enter Tryz.func94, Tryz.ntmps94
    go_wp2_with (first | (go_at_call 130; (with_reducible refine (spec_NatOf N _ HN.out).mono ?_); rintro e w1 ⟨u1, rfl, hb1, g1⟩; obtain ⟨x1a, x1n, x1c, rfl⟩ := sh1 g1; have G1 := Lib.hid g1; clear g1; have HX1 : More (w.alloc (.cells #[.bool false, .slice none 0 0] 24)) w1 := mC; have HB1 := HB _ HX1; have hz1 := More.size HX1; (try simp at hz1); have hb1 := hb1) | (go_at_call 128; (with_reducible refine (spec_l03Make false _ N _ (Ty.at_more G1.out mC) HL.out).mono ?_); rintro e w2 ⟨u2, rfl, hb2, f2⟩; obtain ⟨x2a, x2n, x2c, rfl⟩ := sh1 (Ty.fresh_at f2); have G2 := Lib.hid (Ty.fresh_at f2); clear f2; have HX2 : More (w.alloc (.cells #[.bool false, .slice none 0 0] 24)) w2 := mC; have HB2 := HB _ HX2; have hz2 := More.size HX2; (try simp at hz2); have hb2 := hb2))
    refine bodyPost_ret (v := .agg #[.bool (decide (sgn false N < 0)), .slice x2a x2n x2c]) ?_ rfl ⟨_, rfl, mC2, ints_set2 (Ty.at_more G2.out mC) (HB _ HX2).1 (HB _ HX2).2.1⟩
    simp [results, Tryz.results94, go_sem, *]
  by_cases hm : n = -9223372036854775808
  · subst hm
    have HM : Hid (∃ M, (-9223372036854775808 : Int) = sgn true M ∧ (-9223372036854775808 : Int).natAbs = M ∧ limbs M = [854775808, 223372036, 9]) := Lib.hid ⟨9223372036854775808, rfl, rfl, by
      rw [limbs_step (by decide), limbs_step (by decide), limbs_step (by decide), show (9223372036854775808 / 1000000000 / 1000000000 / 1000000000 : Nat) = 0 from rfl, limbs_zero]
      rfl⟩
    obtain ⟨M, e1, e2, e3⟩ := HM.out
    clear HM
    rw [e2]
    have E3 := Lib.hid e3
    have HL : Hid ((limbs M).length ≤ 60) := Lib.hid (by rw [e3]; decide)
    have ED : Hid (decide ((-9223372036854775808 : Int) < 0) = decide (sgn true M < 0)) := Lib.hid (by rw [e1])
    rw [ED.out]
    clear e1 e2 e3
    have HX : More (w.alloc (.cells #[.bool false, .slice none 0 0] 24)) (w.alloc (.cells #[.bool false, .slice none 0 0] 24)) := More.refl _
    have HB : ∀ w', More (w.alloc (.cells #[.bool false, .slice none 0 0] 24)) w' → w'.cell? ⟨w.heap.size, 0, none⟩ = some (.bool false) ∧ w'.cell? ⟨w.heap.size, 1, none⟩ = some (.slice none 0 0) ∧ (∀ j, w'.frozen? ⟨w.heap.size, j, none⟩ = false) := fun w' h => ⟨box_new (by simp) h 0, box_new (by simp) h 1, fun j => box_free (by simp) h j⟩
    go_enter Tryz.func94, Tryz.ntmps94
    go_wp2_with (first | (go_at_call 128; (refine (spec_l03Make true _ M _ ((show tInts.at _ [_] (limbs M) by rw [E3.out]; exact Ty.fresh_at (B := 0) (Ty.fresh_mono (lit_fresh (l := [854775808, 223372036, 9]) fInt (by simp) rfl rfl (by decide) (by intro x hx; simp at hx; rcases hx with rfl | rfl | rfl <;> exact In64.small (by decide))) (Nat.zero_le _)))) HL.out).mono ?_); rintro e w2 ⟨u2, rfl, hb2, f2⟩; obtain ⟨x2a, x2n, x2c, rfl⟩ := sh1 (Ty.fresh_at f2); have G2 := Lib.hid (Ty.fresh_at f2); clear f2; have HX2 : More (w.alloc (.cells #[.bool false, .slice none 0 0] 24)) w2 := mC; have HB2 := HB _ HX2; have hz2 := More.size HX2; (try simp at hz2); have hb2 := hb2))
    refine bodyPost_ret (v := .agg #[.bool (decide (sgn true M < 0)), .slice x2a x2n x2c]) ?_ rfl ⟨_, rfl, mC2, ints_set2 (Ty.at_more G2.out mC) (HB _ HX2).1 (HB _ HX2).2.1⟩
    simp [results, Tryz.results94, go_sem, *]
  obtain ⟨N, rfl⟩ : ∃ N : Nat, n = -(N : Int) := ⟨n.natAbs, by omega⟩
  have HN : Hid (N < 9223372036854775808) := Lib.hid (by omega)
  have HL : Hid ((limbs N).length ≤ 60) := Lib.hid (by have := limbs_int (n := (N : Int)) (In64.mk (by omega)); rw [Int.natAbs_natCast] at this; omega)
  rw [show decide (-(N : Int) < 0) = decide (sgn true N < 0) from rfl, Int.natAbs_neg, Int.natAbs_natCast]
  have hm' : (-(N : Int) == -9223372036854775808) = false := by simp <;> omega
  have h0' : -(N : Int) < 0 := by omega
  have HX : More (w.alloc (.cells #[.bool false, .slice none 0 0] 24)) (w.alloc (.cells #[.bool false, .slice none 0 0] 24)) := More.refl _
  have HB : ∀ w', More (w.alloc (.cells #[.bool false, .slice none 0 0] 24)) w' → w'.cell? ⟨w.heap.size, 0, none⟩ = some (.bool false) ∧ w'.cell? ⟨w.heap.size, 1, none⟩ = some (.slice none 0 0) ∧ (∀ j, w'.frozen? ⟨w.heap.size, j, none⟩ = false) := fun w' h => ⟨box_new (by simp) h 0, box_new (by simp) h 1, fun j => box_free (by simp) h j⟩
  go_enter Tryz.func94, Tryz.ntmps94
  go_wp2_with (first | (go_at_call 130; (with_reducible refine (spec_NatOf N _ HN.out).mono ?_); rintro e w1 ⟨u1, rfl, hb1, g1⟩; obtain ⟨x1a, x1n, x1c, rfl⟩ := sh1 g1; have G1 := Lib.hid g1; clear g1; have HX1 : More (w.alloc (.cells #[.bool false, .slice none 0 0] 24)) w1 := mC; have HB1 := HB _ HX1; have hz1 := More.size HX1; (try simp at hz1); have hb1 := hb1) | (go_at_call 128; (with_reducible refine (spec_l03Make true _ N _ (Ty.at_more G1.out mC) HL.out).mono ?_); rintro e w2 ⟨u2, rfl, hb2, f2⟩; obtain ⟨x2a, x2n, x2c, rfl⟩ := sh1 (Ty.fresh_at f2); have G2 := Lib.hid (Ty.fresh_at f2); clear f2; have HX2 : More (w.alloc (.cells #[.bool false, .slice none 0 0] 24)) w2 := mC; have HB2 := HB _ HX2; have hz2 := More.size HX2; (try simp at hz2); have hb2 := hb2))
  refine bodyPost_ret (v := .agg #[.bool (decide (sgn true N < 0)), .slice x2a x2n x2c]) ?_ rfl ⟨_, rfl, mC2, ints_set2 (Ty.at_more G2.out mC) (HB _ HX2).1 (HB _ HX2).2.1⟩
  simp [results, Tryz.results94, go_sem, *]
set_option maxRecDepth 4000 in
set_option maxHeartbeats 3200000 in
theorem impl_ratInt (n : Int) (w : World) (hn : In64 n) :
    Calls Tryz.prog 77 #[.int .i64 n] w fun e w' => ∃ u v, e = .returned (.agg #[.bool (decide (n < 0)), u, v]) ∧ More w w' ∧ RatAt w' (frInt n) u v := by
  have HN := Lib.hid hn; clear hn
  obtain ⟨s, zs⟩ : ∃ b, decide (n < 0) = b := ⟨_, rfl⟩
  rw [zs]
  have SS := Lib.hid zs; clear zs
  have HX : More (w.alloc (.cells #[.bool false, .slice none 0 0, .slice none 0 0] 26)) (w.alloc (.cells #[.bool false, .slice none 0 0, .slice none 0 0] 26)) := More.refl _
  have HB : ∀ w', More (w.alloc (.cells #[.bool false, .slice none 0 0, .slice none 0 0] 26)) w' → w'.cell? ⟨w.heap.size, 0, none⟩ = some (.bool false) ∧ w'.cell? ⟨w.heap.size, 1, none⟩ = some (.slice none 0 0) ∧ w'.cell? ⟨w.heap.size, 2, none⟩ = some (.slice none 0 0) ∧ (∀ j, w'.frozen? ⟨w.heap.size, j, none⟩ = false) := fun w' h => ⟨box_new (by simp) h 0, box_new (by simp) h 1, box_new (by simp) h 2, fun j => box_free (by simp) h j⟩
  go_enter Tryz.func77, Tryz.ntmps77
  go_wp2_with (first | (go_at_call 110; (with_reducible refine (impl_bigOf n _ HN.out).mono ?_); rintro e w1 ⟨u1, rfl, hb1, g1⟩; rw [SS.out]; obtain ⟨x1a, x1n, x1c, rfl⟩ := sh1 g1; have G1 := Lib.hid g1; clear g1; have HX1 : More (w.alloc (.cells #[.bool false, .slice none 0 0, .slice none 0 0] 26)) w1 := mC; have HB1 := HB _ HX1; have hz1 := More.size HX1; (try simp at hz1); have hb1 := hb1; have hz9 : w.heap.size < w1.heap.size := (by have := HX1.size; simp at this; omega)))
  refine bodyPost_ret (v := .agg #[.bool s, .slice x1a x1n x1c, .slice (some ⟨w1.heap.size, 0, none⟩) 1 1]) ?_ rfl ?_
  · simp [results, Tryz.results77, go_sem, *]
  · refine ⟨_, _, rfl, mC2, ?_, ?_⟩
    · exact Ty.at_more (ints_set3 G1.out HB1.1 HB1.2.1 HB1.2.2.1) (Turns.more ((Turns.refl [] _).alloc _))
    · show tInts.at _ _ (limbs 1)
      rw [limbs_1]
      exact Ty.fresh_at (lit_fresh fInt (by simp) rfl rfl (by decide) (by intro x hx; simp at hx; subst hx; exact In64.small (by decide)))
set_option maxRecDepth 4000 in
set_option maxHeartbeats 3200000 in
theorem spec_RatFromInt (n : Int) (w : World) (hn : In64 n) :
    Calls Tryz.prog 91 #[.int .i64 n] w fun e w' => ∃ u v, e = .returned (.agg #[.bool (decide (n < 0)), u, v]) ∧ More w w' ∧ RatAt w' (frInt n) u v := by
  have HN := Lib.hid hn; clear hn
  obtain ⟨s, zs⟩ : ∃ b, decide (n < 0) = b := ⟨_, rfl⟩
  rw [zs]
  have SS := Lib.hid zs; clear zs
  have HX : More (w.alloc (.cells #[.bool false, .slice none 0 0, .slice none 0 0] 26)) (w.alloc (.cells #[.bool false, .slice none 0 0, .slice none 0 0] 26)) := More.refl _
  have HB : ∀ w', More (w.alloc (.cells #[.bool false, .slice none 0 0, .slice none 0 0] 26)) w' → w'.cell? ⟨w.heap.size, 0, none⟩ = some (.bool false) ∧ w'.cell? ⟨w.heap.size, 1, none⟩ = some (.slice none 0 0) ∧ w'.cell? ⟨w.heap.size, 2, none⟩ = some (.slice none 0 0) ∧ (∀ j, w'.frozen? ⟨w.heap.size, j, none⟩ = false) := fun w' h => ⟨box_new (by simp) h 0, box_new (by simp) h 1, box_new (by simp) h 2, fun j => box_free (by simp) h j⟩
  go_enter Tryz.func91, Tryz.ntmps91
  go_wp2_with (first | (go_at_call 94; (with_reducible refine (spec_BigIntOf n _ HN.out).mono ?_); rintro e w1 ⟨u1, rfl, hb1, g1⟩; rw [SS.out]; obtain ⟨x1a, x1n, x1c, rfl⟩ := sh1 g1; have G1 := Lib.hid g1; clear g1; have HX1 : More (w.alloc (.cells #[.bool false, .slice none 0 0, .slice none 0 0] 26)) w1 := mC; have HB1 := HB _ HX1; have hz1 := More.size HX1; (try simp at hz1); have hb1 := hb1; have hz9 : w.heap.size < w1.heap.size := (by have := HX1.size; simp at this; omega)))
  refine bodyPost_ret (v := .agg #[.bool s, .slice x1a x1n x1c, .slice (some ⟨w1.heap.size, 0, none⟩) 1 1]) ?_ rfl ?_
  · simp [results, Tryz.results91, go_sem, *]
  · refine ⟨_, _, rfl, mC2, ?_, ?_⟩
    · exact Ty.at_more (ints_set3 G1.out HB1.1 HB1.2.1 HB1.2.2.1) (Turns.more ((Turns.refl [] _).alloc _))
    · show tInts.at _ _ (limbs 1)
      rw [limbs_1]
      exact Ty.fresh_at (lit_fresh fInt (by simp) rfl rfl (by decide) (by intro x hx; simp at hx; subst hx; exact In64.small (by decide)))
theorem int_raw {w : World} {n : Int} {s : Bool} {u v : Value} (hs : decide (n < 0) = s) (h : RatAt w (frInt n) u v) : tRat.at w [.bool s, u, v] (encR (frInt n)) := by
  rw [← hs]
  exact RatAt.out h
theorem ratOk_int {n : Int} (h : In64 n) : ratOkB (encR (frInt n)) = true := ratOk_iff.2 ⟨_, frInt_good h, rfl⟩
theorem wRat_good {f : Fr} (h : Vd f) : wRat (encR f) ≤ 1048576 := by
  have h1 := h.sm1
  have h2 := h.sm2
  show (limbs f.1.natAbs).length + (limbs f.2).length ≤ 1048576
  omega
theorem wRat_int {n : Int} (h : In64 n) : wRat (encR (frInt n)) ≤ 1048576 := wRat_good (frInt_vd h)
end Go.Proofs.YtnbefpfijaimjaaGreatDoor
