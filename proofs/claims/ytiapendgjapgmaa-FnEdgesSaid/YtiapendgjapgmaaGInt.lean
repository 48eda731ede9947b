/- Several texts laid together; each has its own word at its head. -/
import Derived.Test.YtiapendgjapgmaaCmp
import Derived.Test.YtiapendgjapgmaaGBase
import Derived.Deep.RegionHeld3
/- Comparing raw fractions; lists of fractions. -/
namespace Go.Proofs.Ytiapendgjapgmaa
open Go.RowKit
noncomputable def rCmp (x y : QR) : Int := frCmp (frOf x) (frOf y)
theorem rCmp_range (x y : QR) : -1 ≤ rCmp x y ∧ rCmp x y ≤ 1 := by
  unfold rCmp frCmp cmpI
  split
  · omega
  split
  · omega
  split <;> omega
theorem impl_ratCmpX (x : QR) (b : Bool) (u v : Value) (y : QR) (c : Bool) (u' v' : Value) (w : World) (hx : ratOkB x = true) (hy : ratOkB y = true) (h : tRat.at w [.bool b, u, v] x) (h' : tRat.at w [.bool c, u', v'] y) :
    Calls Try.prog 58 #[.agg #[.bool b, u, v], .agg #[.bool c, u', v']] w fun e w' => e = .returned (.int .i64 (rCmp x y)) ∧ More w w' := by
  obtain ⟨rfl, a1⟩ := frOf_at h hx
  obtain ⟨rfl, a2⟩ := frOf_at h' hy
  exact impl_ratCmp (frOf x) u v (frOf y) u' v' w a1 (frOf_vd x) a2 (frOf_vd y)
theorem spec_RatCmpX (x : QR) (b : Bool) (u v : Value) (y : QR) (c : Bool) (u' v' : Value) (w : World) (h : tRat.at w [.bool b, u, v] x) (l : wRat x ≤ 1048576) (h' : tRat.at w [.bool c, u', v'] y) (l' : wRat y ≤ 1048576) :
    Calls Try.prog 73 #[.agg #[.bool b, u, v], .agg #[.bool c, u', v']] w fun e w' => e = .returned (.int .i64 (rCmp x y)) ∧ More w w' := spec_RatCmp x b u v y c u' v' w h l h' l'
/-- A built slice of things that hold memory. -/
theorem lit_at {α : Type} {S : Ty α} {w : World} {C : Array Value} {e : TypeId} {N n : Nat} (cs : List (List Value × α)) (hN : w.heap.size = N) (hC : C.toList = cs.flatMap Prod.fst) (hn : cs.length = n) (hs : n ≤ 1048576)
    (h : ∀ p ∈ cs, p.1.length = S.size ∧ S.at w p.1 p.2) : (tSlice S).at (w.alloc (.cells C e)) [.slice (some ⟨N, 0, none⟩) n n] (cs.map Prod.snd) := by
  subst hN
  subst hn
  refine ⟨some ⟨w.heap.size, 0, none⟩, cs.length, by simp, by simp, by unfold maxLen; omega, (fun e => by cases e), fun hl => ⟨w.heap.size, 0, rfl, trivial, by simp, fun k x hx => ?_⟩⟩
  rw [List.getElem?_map] at hx
  obtain ⟨p, hp, rfl⟩ := Option.map_eq_some_iff.1 hx
  refine ⟨p.1, Ty.at_more (h p (List.mem_of_getElem? hp)).2 (Turns.more ((Turns.refl [] _).alloc _)), fun j v hv => ?_⟩
  rw [box_new rfl (More.refl _), ← Array.getElem?_toList, hC]
  have hk := flatMap_chunk (f := Prod.fst) (s := S.size) cs (fun p hp => (h p hp).1) k p hp
  rw [← hk, List.getElem?_take] at hv
  split at hv
  · rw [List.getElem?_drop] at hv
    simpa using hv
  · cases hv
noncomputable def badR (x : QR) : Bool := !ratOkB x
theorem rats_small {l : List QR} (h : wRatS l ≤ 1048576) : l.length ≤ 1048576 ∧ ∀ x ∈ l, wRat x ≤ 1048576 := by
  have h : l.length + wsum wRat l ≤ 1048576 := h
  refine ⟨by omega, fun x hx => ?_⟩
  obtain ⟨i, hi, rfl⟩ := List.getElem_of_mem hx
  have := wsum_el (f := wRat) (List.getElem?_eq_getElem hi)
  omega
set_option maxHeartbeats 1600000 in
theorem impl_allRats_1 (x : QR) (b : Bool) (up vp : Value) (w : World) (h : tRat.at w [.bool b, up, vp] x) (hl : wRat x ≤ 1048576) :
    Calls Try.prog 78 #[.agg #[.bool b, up, vp]] w fun e w' => e = .returned (.bool (badR x)) ∧ More w w' := by
  obtain ⟨-, hu, hv⟩ := rat_split h
  obtain ⟨pa, pn, pc, rfl⟩ := sh1 hu
  obtain ⟨pd, pm, pe, rfl⟩ := sh1 hv
  have Hp := Lib.hid h; have Wp := Lib.hid hl; clear h hl hu hv
  have HX : More (w.alloc (.cells #[.bool b, .slice pa pn pc, .slice pd pm pe] 32)) (w.alloc (.cells #[.bool b, .slice pa pn pc, .slice pd pm pe] 32)) := More.refl _
  have HB : ∀ w', More (w.alloc (.cells #[.bool b, .slice pa pn pc, .slice pd pm pe] 32)) w' → w'.cell? ⟨w.heap.size, 0, none⟩ = some (.bool b) ∧ w'.cell? ⟨w.heap.size, 1, none⟩ = some (.slice pa pn pc) ∧ w'.cell? ⟨w.heap.size, 2, none⟩ = some (.slice pd pm pe) ∧ (∀ j, w'.frozen? ⟨w.heap.size, j, none⟩ = false) := fun w' h => ⟨box_new (by simp) h 0, box_new (by simp) h 1, box_new (by simp) h 2, fun j => box_free (by simp) h j⟩
  go_enter Try.func78, Try.ntmps78
  go_wp2_with (first | (go_at_call 30; refine (impl_RatOk b (.slice pa pn pc) (.slice pd pm pe) x _ (Ty.at_more Hp.out mC) Wp.out).mono ?_; rintro e w1 ⟨rfl, hb1⟩; have HX1 : More (w.alloc (.cells #[.bool b, .slice pa pn pc, .slice pd pm pe] 32)) w1 := mC; have HB1 := HB _ HX1; have hz1 := More.size HX1; (try simp at hz1); have hb1 := hb1))
  go_ret
  exact ⟨rfl, mC⟩
set_option maxHeartbeats 1600000 in
theorem indexFunc_allRats (v : Value) (l : List (QR)) (w : World)  (hv : tRatS.at w [v] l) (hl : l.length ≤ 1048576 ∧ ∀ x ∈ l, wRat x ≤ 1048576) :
    Calls Try.prog 106 #[v, .func (.func 78) #[] #[]] w fun e w' => e = .returned (.int .i64 (idxI badR l)) ∧ More w w' := by
  obtain ⟨ao, cap, rfl⟩ := sl_len hv
  have HV := Lib.hid hv; clear hv
  have HWl := Lib.hid hl.2
  have hl := hl.1
  have Q : Hid (∀ W, More w W → True) := Lib.hid (fun W h => trivial)
  skip
  obtain ⟨n, hn⟩ : ∃ n, n = l.length := ⟨_, rfl⟩
  rw [← hn] at HV hl ⊢
  have HN := Lib.hid hn; clear hn
  go_enter Try.func106, Try.ntmps106
  go_wp2_with fail
  go_loopw [8] (fun i wr => ∃ k : Nat, k ≤ n ∧ i = .int .i64 k ∧ More w wr ∧ Hid (∀ (i : Nat) y, i < k → l[i]? = some y → badR y = false)) (fun i _ => n - (intOf i).toNat)
  case atStart => exact ⟨0, Nat.zero_le _, rfl, More.refl _, Lib.hid (fun i y hi => by omega)⟩
  case round =>
    obtain ⟨k, hk, rfl, hm, HB⟩ := hrel
    by_cases hlt : k < n
    · obtain ⟨b, off, x, a1, n1, c1, a2, n2, c2, rfl, hblt, hx, hat, c0_, c1_, c2_⟩ := el_Rat (Ty.at_more HV.out hm) (k := k) (by rw [← HN.out]; exact hlt)
      have HX := Lib.hid hx; have HA := Lib.hid hat; clear hx hat
      rcases Bool.eq_false_or_eq_true (badR x) with hd | hd
      all_goals
        have HD := Lib.hid hd
        go_wp2_with fail
        refine (impl_allRats_1 x _ _ _ _ (Ty.at_more HA.out mC) (HWl.out x (List.mem_of_getElem? HX.out))).mono ?_
        rintro e w1 ⟨rfl, hb1⟩
        rw [HD.out]
        go_wp2_with fail
      · go_ret
        exact ⟨ret_int (idxI_found HB.out HX.out HD.out).symm, mC⟩
      · go_roundw
        case rel => exact ⟨k + 1, by omega, by go_num, mC, Lib.hid (fun i z hi hz => by
          rcases Nat.lt_succ_iff_lt_or_eq.1 hi with h | rfl
          · exact HB.out i z h hz
          · rw [HX.out] at hz; cases hz; exact HD.out)⟩
        case measure => simp [intOf]; omega
    · go_wp2_with fail
      go_ret
      exact ⟨ret_int (idxI_none (fun i z hz => HB.out i z (by have := (List.getElem?_eq_some_iff.1 hz).1; have := HN.out; omega) hz)).symm, hm⟩
set_option maxHeartbeats 800000 in
theorem containsFunc_allRats (v : Value) (l : List (QR)) (w : World)  (hv : tRatS.at w [v] l) (hl : l.length ≤ 1048576 ∧ ∀ x ∈ l, wRat x ≤ 1048576) :
    Calls Try.prog 77 #[v, .func (.func 78) #[] #[]] w fun e w' => e = .returned (.bool (l.any badR)) ∧ More w w' := by
  have C := Lib.hid (indexFunc_allRats v l w  hv hl)
  clear hv hl 
  go_enter Try.func77, Try.ntmps77
  go_wp2_with (go_at_call 106; refine C.out.mono ?_; rintro e w1 ⟨rfl, hb1⟩)
  go_ret
  exact ⟨ret_bool idxI_nonneg, mC⟩
set_option maxHeartbeats 400000 in
theorem impl_allRats (v : Value) (l : List QR) (w : World) (hv : tRatS.at w [v] l) (hl : l.length ≤ 1048576 ∧ ∀ x ∈ l, wRat x ≤ 1048576) :
    Calls Try.prog 39 #[v] w fun e w' => e = .returned (.bool (l.all ratOkB)) ∧ More w w' := by
  have HV := Lib.hid hv; clear hv
  have HL := Lib.hid hl; clear hl
  go_enter Try.func39, Try.ntmps39
  go_wp2_with (go_at_call 77; refine (containsFunc_allRats _ l _ HV.out HL.out).mono ?_; rintro e w1 ⟨rfl, hb1⟩)
  go_ret
  exact ⟨ret_bool (by rw [List.not_any_eq_all_not]; congr 1; funext x; simp [badR]), mC⟩
end Go.Proofs.Ytiapendgjapgmaa
/- Whole numbers as fractions. -/
namespace Go.Proofs.Ytiapendgjapgmaa
open Go.RowKit
theorem frInt_good {n : Int} (h : In64 n) : Good (frInt n) := (frInt_vd h).good (by show (1 : Nat) ≠ 0; decide)
theorem limbs_int {n : Int} (h : In64 n) : (limbs n.natAbs).length ≤ 3 := by
  have h1 := h.out
  refine limbs_len_le.2 ?_
  have h3 : bp 3 = 1000000000000000000000000000 := by decide
  rw [h3]
  omega
set_option maxRecDepth 4000 in
set_option maxHeartbeats 3200000 in
theorem impl_bigOf (n : Int) (w : World) (hn : In64 n) :
    Calls Try.prog 57 #[.int .i64 n] w fun e w' => ∃ u, e = .returned (.agg #[.bool (decide (n < 0)), u]) ∧ More w w' ∧ tInts.at w' [u] (limbs n.natAbs) := by
  have hr := In64.out hn
  clear hn
  by_cases h0 : 0 ≤ n
  · obtain ⟨N, rfl⟩ := Int.eq_ofNat_of_zero_le h0
    rw [show decide ((N : Int) < 0) = false from by simp, Int.natAbs_natCast]
    have HN : Hid (N < 9223372036854775808) := Lib.hid (by omega)
    have HX : More (w.alloc (.cells #[.bool false, .slice none 0 0] 30)) (w.alloc (.cells #[.bool false, .slice none 0 0] 30)) := More.refl _
    have HB : ∀ w', More (w.alloc (.cells #[.bool false, .slice none 0 0] 30)) w' → w'.cell? ⟨w.heap.size, 0, none⟩ = some (.bool false) ∧ w'.cell? ⟨w.heap.size, 1, none⟩ = some (.slice none 0 0) ∧ (∀ j, w'.frozen? ⟨w.heap.size, j, none⟩ = false) := fun w' h => ⟨box_new (by simp) h 0, box_new (by simp) h 1, fun j => box_free (by simp) h j⟩
    go_enter Try.func57, Try.ntmps57
    go_wp2_with (first | (go_at_call 92; (with_reducible refine (impl_natOf N _ HN.out).mono ?_); rintro e w1 ⟨u1, rfl, hb1, g1⟩; obtain ⟨x1a, x1n, x1c, rfl⟩ := sh1 g1; have G1 := Lib.hid g1; clear g1; have HX1 : More (w.alloc (.cells #[.bool false, .slice none 0 0] 30)) w1 := mC; have HB1 := HB _ HX1; have hz1 := More.size HX1; (try simp at hz1); have hb1 := hb1))
    refine bodyPost_ret (v := .agg #[.bool false, .slice x1a x1n x1c]) ?_ rfl ?_
    · simp [results, Try.results57, go_sem, *]
    · exact ⟨_, rfl, mC2, ints_set2 (Ty.at_more G1.out mC) (HB _ HX1).1 (HB _ HX1).2.1⟩
  by_cases hm : n = -9223372036854775808
  · subst hm
    rw [show decide ((-9223372036854775808 : Int) < 0) = true from rfl]
    have HM : Hid ((-9223372036854775808 : Int).natAbs = 9223372036854775807 + 1) := Lib.hid rfl
    rw [HM.out]
    have H1 : Hid ((1 : Nat) < 9223372036854775808) := Lib.hid (by decide)
    have H2 : Hid ((9223372036854775807 : Nat) < 9223372036854775808) := Lib.hid (by decide)
    have L1 : Hid ((limbs 1).length ≤ 4096) := Lib.hid (by rw [limbs_1]; decide)
    have L2 : Hid ((limbs 9223372036854775807).length ≤ 4096) := Lib.hid (Nat.le_trans (limbs_int (n := 9223372036854775807) (In64.mk (by decide))) (by decide))
    obtain ⟨M, hM⟩ : ∃ M, M = 9223372036854775807 := ⟨_, rfl⟩
    rw [← hM] at H2 L2 ⊢
    have EM : Hid (∀ w, Calls Try.prog 92 #[.int .i64 9223372036854775807] w fun e w' => ∃ v', e = .returned v' ∧ More w w' ∧ tInts.at w' [v'] (limbs M)) := Lib.hid (fun w => by have h := impl_natOf M w H2.out; rw [hM] at h ⊢; exact h)
    have E1 : Hid (∀ w, Calls Try.prog 92 #[.int .i64 1] w fun e w' => ∃ v', e = .returned v' ∧ More w w' ∧ tInts.at w' [v'] (limbs 1)) := Lib.hid (fun w => impl_natOf 1 w H1.out)
    clear hM
    have HX : More (w.alloc (.cells #[.bool false, .slice none 0 0] 30)) (w.alloc (.cells #[.bool false, .slice none 0 0] 30)) := More.refl _
    have HB : ∀ w', More (w.alloc (.cells #[.bool false, .slice none 0 0] 30)) w' → w'.cell? ⟨w.heap.size, 0, none⟩ = some (.bool false) ∧ w'.cell? ⟨w.heap.size, 1, none⟩ = some (.slice none 0 0) ∧ (∀ j, w'.frozen? ⟨w.heap.size, j, none⟩ = false) := fun w' h => ⟨box_new (by simp) h 0, box_new (by simp) h 1, fun j => box_free (by simp) h j⟩
    go_enter Try.func57, Try.ntmps57
    go_wp2_with (first | (go_at_call 92; (with_reducible refine (EM.out _).mono ?_); rintro e w1 ⟨u1, rfl, hb1, g1⟩; obtain ⟨x1a, x1n, x1c, rfl⟩ := sh1 g1; have G1 := Lib.hid g1; clear g1; have HX1 : More (w.alloc (.cells #[.bool false, .slice none 0 0] 30)) w1 := mC; have HB1 := HB _ HX1; have hz1 := More.size HX1; (try simp at hz1); have hb1 := hb1) | (go_at_call 92; (with_reducible refine (E1.out _).mono ?_); rintro e w2 ⟨u2, rfl, hb2, g2⟩; obtain ⟨x2a, x2n, x2c, rfl⟩ := sh1 g2; have G2 := Lib.hid g2; clear g2; have HX2 : More (w.alloc (.cells #[.bool false, .slice none 0 0] 30)) w2 := mC; have HB2 := HB _ HX2; have hz2 := More.size HX2; (try simp at hz2); have hb2 := hb2) | (go_at_call 93; (with_reducible refine (impl_natAdd _ _ M 1 _ (Ty.at_more G1.out mC) (Ty.at_more G2.out mC) L2.out L1.out).mono ?_); rintro e w3 ⟨u3, rfl, hb3, g3⟩; obtain ⟨x3a, x3n, x3c, rfl⟩ := sh1 g3; have G3 := Lib.hid g3; clear g3; have HX3 : More (w.alloc (.cells #[.bool false, .slice none 0 0] 30)) w3 := mC; have HB3 := HB _ HX3; have hz3 := More.size HX3; (try simp at hz3); have hb3 := hb3))
    refine bodyPost_ret (v := .agg #[.bool true, .slice x3a x3n x3c]) ?_ rfl ?_
    · simp [results, Try.results57, go_sem, *]
    · exact ⟨_, rfl, mC2, ints_set2 (Ty.at_more G3.out mC) (HB _ HX3).1 (HB _ HX3).2.1⟩
  obtain ⟨N, rfl⟩ : ∃ N : Nat, n = -(N : Int) := ⟨n.natAbs, by omega⟩
  have HN : Hid (N < 9223372036854775808) := Lib.hid (by omega)
  rw [show decide (-(N : Int) < 0) = true from decide_eq_true (by omega), Int.natAbs_neg, Int.natAbs_natCast]
  have hm' : (-(N : Int) == -9223372036854775808) = false := by simp <;> omega
  have HX : More (w.alloc (.cells #[.bool false, .slice none 0 0] 30)) (w.alloc (.cells #[.bool false, .slice none 0 0] 30)) := More.refl _
  have HB : ∀ w', More (w.alloc (.cells #[.bool false, .slice none 0 0] 30)) w' → w'.cell? ⟨w.heap.size, 0, none⟩ = some (.bool false) ∧ w'.cell? ⟨w.heap.size, 1, none⟩ = some (.slice none 0 0) ∧ (∀ j, w'.frozen? ⟨w.heap.size, j, none⟩ = false) := fun w' h => ⟨box_new (by simp) h 0, box_new (by simp) h 1, fun j => box_free (by simp) h j⟩
  go_enter Try.func57, Try.ntmps57
  go_wp2_with (first | (go_at_call 92; (with_reducible refine (impl_natOf N _ HN.out).mono ?_); rintro e w1 ⟨u1, rfl, hb1, g1⟩; obtain ⟨x1a, x1n, x1c, rfl⟩ := sh1 g1; have G1 := Lib.hid g1; clear g1; have HX1 : More (w.alloc (.cells #[.bool false, .slice none 0 0] 30)) w1 := mC; have HB1 := HB _ HX1; have hz1 := More.size HX1; (try simp at hz1); have hb1 := hb1))
  refine bodyPost_ret (v := .agg #[.bool true, .slice x1a x1n x1c]) ?_ rfl ?_
  · simp [results, Try.results57, go_sem, *]
  · exact ⟨_, rfl, mC2, ints_set2 (Ty.at_more G1.out mC) (HB _ HX1).1 (HB _ HX1).2.1⟩
set_option maxRecDepth 4000 in
set_option maxHeartbeats 3200000 in
theorem impl_ratInt (n : Int) (w : World) (hn : In64 n) :
    Calls Try.prog 26 #[.int .i64 n] w fun e w' => ∃ u v, e = .returned (.agg #[.bool (decide (n < 0)), u, v]) ∧ More w w' ∧ RatAt w' (frInt n) u v := by
  have HN := Lib.hid hn; clear hn
  obtain ⟨s, zs⟩ : ∃ b, decide (n < 0) = b := ⟨_, rfl⟩
  rw [zs]
  have SS := Lib.hid zs; clear zs
  have HX : More (w.alloc (.cells #[.bool false, .slice none 0 0, .slice none 0 0] 32)) (w.alloc (.cells #[.bool false, .slice none 0 0, .slice none 0 0] 32)) := More.refl _
  have HB : ∀ w', More (w.alloc (.cells #[.bool false, .slice none 0 0, .slice none 0 0] 32)) w' → w'.cell? ⟨w.heap.size, 0, none⟩ = some (.bool false) ∧ w'.cell? ⟨w.heap.size, 1, none⟩ = some (.slice none 0 0) ∧ w'.cell? ⟨w.heap.size, 2, none⟩ = some (.slice none 0 0) ∧ (∀ j, w'.frozen? ⟨w.heap.size, j, none⟩ = false) := fun w' h => ⟨box_new (by simp) h 0, box_new (by simp) h 1, box_new (by simp) h 2, fun j => box_free (by simp) h j⟩
  go_enter Try.func26, Try.ntmps26
  go_wp2_with (first | (go_at_call 57; (with_reducible refine (impl_bigOf n _ HN.out).mono ?_); rintro e w1 ⟨u1, rfl, hb1, g1⟩; rw [SS.out]; obtain ⟨x1a, x1n, x1c, rfl⟩ := sh1 g1; have G1 := Lib.hid g1; clear g1; have HX1 : More (w.alloc (.cells #[.bool false, .slice none 0 0, .slice none 0 0] 32)) w1 := mC; have HB1 := HB _ HX1; have hz1 := More.size HX1; (try simp at hz1); have hb1 := hb1; have hz9 : w.heap.size < w1.heap.size := (by have := HX1.size; simp at this; omega)))
  refine bodyPost_ret (v := .agg #[.bool s, .slice x1a x1n x1c, .slice (some ⟨w1.heap.size, 0, none⟩) 1 1]) ?_ rfl ?_
  · simp [results, Try.results26, go_sem, *]
  · refine ⟨_, _, rfl, mC2, ?_, ?_⟩
    · exact Ty.at_more (ints_set3 G1.out HB1.1 HB1.2.1 HB1.2.2.1) (Turns.more ((Turns.refl [] _).alloc _))
    · show tInts.at _ _ (limbs 1)
      rw [limbs_1]
      exact Ty.fresh_at (lit_fresh fInt (by simp) rfl rfl (by decide) (by intro x hx; simp at hx; subst hx; exact In64.small (by decide)))
theorem int_raw {w : World} {n : Int} {s : Bool} {u v : Value} (hs : decide (n < 0) = s) (h : RatAt w (frInt n) u v) : tRat.at w [.bool s, u, v] (encR (frInt n)) := by
  rw [← hs]
  exact RatAt.out h
theorem ratOk_int {n : Int} (h : In64 n) : ratOkB (encR (frInt n)) = true := ratOk_iff.2 ⟨_, frInt_good h, rfl⟩
theorem wRat_good {f : Fr} (h : Vd f) : wRat (encR f) ≤ 1048576 := by
  have h1 := h.sm1
  have h2 := h.sm2
  show (limbs f.1.natAbs).length + (limbs f.2).length ≤ 1048576
  omega
theorem wRat_int {n : Int} (h : In64 n) : wRat (encR (frInt n)) ≤ 1048576 := wRat_good (frInt_vd h)
end Go.Proofs.Ytiapendgjapgmaa
