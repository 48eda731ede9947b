/- FnExactSpansX returns true, for every input. -/
import Derived.Test.YtkhcblheekfdmaaSpn
import Derived.Test.YtkhcblheekfdmaaToEdge
import Derived.Test.YtkhcblheekfdmaaSzRat
import Derived.Test.YtkhcblheekfdmaaToRat
import Derived.Test.YtkhcblheekfdmaaEqRat
import Derived.Deep.RegionHeld3
namespace Go.Proofs.Ytkhcblheekfdmaa
open Go.RowKit
set_option maxHeartbeats 3200000 in
theorem law_SpansX {W : World} (ca0 : Array Value) (e : QE) (hv0 : tEdge.at W ca0.toList e) (ca1 : Array Value) (p : QR) (hv1 : tRat.at W ca1.toList p) (ca2 : Array Value) (q : QR) (hv2 : tRat.at W ca2.toList q) :
    Calls Try.prog 6 #[.agg ca0, .agg ca1, .agg ca2] W fun e w' => e = .returned (.bool true) ∧ More W w' := by
  have es0 := sh_Edge hv0
  rw [es0] at hv0
  obtain rfl := arr_of es0
  clear es0
  have HV0 := Lib.hid hv0; clear hv0
  obtain ⟨s1a1, s1n1, s1c1, s1a2, s1n2, s1c2, es1⟩ := sh_Rat hv1
  rw [es1] at hv1
  obtain rfl := arr_of es1
  clear es1
  have HV1 := Lib.hid hv1; clear hv1
  obtain ⟨s2a1, s2n1, s2c1, s2a2, s2n2, s2c2, es2⟩ := sh_Rat hv2
  rw [es2] at hv2
  obtain rfl := arr_of es2
  clear es2
  have HV2 := Lib.hid hv2; clear hv2
  by_cases hn1 : ((wRat p : Nat) : Int) ≤ 1048576
  rotate_left
  · have Hbad := Lib.hid hn1; clear hn1
    have HX : More (((W.alloc (.cells #[.int .i64 e.1.1, .int .i64 e.1.2, .int .i64 e.2.1.1, .int .i64 e.2.1.2, .int .i64 e.2.2.1, .bool e.2.2.2] 63)).alloc (.cells #[.bool p.1.1, .slice s1a1 s1n1 s1c1, .slice s1a2 s1n2 s1c2] 44)).alloc (.cells #[.bool q.1.1, .slice s2a1 s2n1 s2c1, .slice s2a2 s2n2 s2c2] 44)) (((W.alloc (.cells #[.int .i64 e.1.1, .int .i64 e.1.2, .int .i64 e.2.1.1, .int .i64 e.2.1.2, .int .i64 e.2.2.1, .bool e.2.2.2] 63)).alloc (.cells #[.bool p.1.1, .slice s1a1 s1n1 s1c1, .slice s1a2 s1n2 s1c2] 44)).alloc (.cells #[.bool q.1.1, .slice s2a1 s2n1 s2c1, .slice s2a2 s2n2 s2c2] 44)) := More.refl _
    have HB : ∀ w', More (((W.alloc (.cells #[.int .i64 e.1.1, .int .i64 e.1.2, .int .i64 e.2.1.1, .int .i64 e.2.1.2, .int .i64 e.2.2.1, .bool e.2.2.2] 63)).alloc (.cells #[.bool p.1.1, .slice s1a1 s1n1 s1c1, .slice s1a2 s1n2 s1c2] 44)).alloc (.cells #[.bool q.1.1, .slice s2a1 s2n1 s2c1, .slice s2a2 s2n2 s2c2] 44)) w' → w'.cell? ⟨W.heap.size, 0, none⟩ = some (.int .i64 e.1.1) ∧ w'.cell? ⟨W.heap.size, 1, none⟩ = some (.int .i64 e.1.2) ∧ w'.cell? ⟨W.heap.size, 2, none⟩ = some (.int .i64 e.2.1.1) ∧ w'.cell? ⟨W.heap.size, 3, none⟩ = some (.int .i64 e.2.1.2) ∧ w'.cell? ⟨W.heap.size, 4, none⟩ = some (.int .i64 e.2.2.1) ∧ w'.cell? ⟨W.heap.size, 5, none⟩ = some (.bool e.2.2.2) ∧ (∀ j, w'.frozen? ⟨W.heap.size, j, none⟩ = false) ∧ w'.cell? ⟨W.heap.size + 1, 0, none⟩ = some (.bool p.1.1) ∧ w'.cell? ⟨W.heap.size + 1, 1, none⟩ = some (.slice s1a1 s1n1 s1c1) ∧ w'.cell? ⟨W.heap.size + 1, 2, none⟩ = some (.slice s1a2 s1n2 s1c2) ∧ (∀ j, w'.frozen? ⟨W.heap.size + 1, j, none⟩ = false) ∧ w'.cell? ⟨W.heap.size + 1 + 1, 0, none⟩ = some (.bool q.1.1) ∧ w'.cell? ⟨W.heap.size + 1 + 1, 1, none⟩ = some (.slice s2a1 s2n1 s2c1) ∧ w'.cell? ⟨W.heap.size + 1 + 1, 2, none⟩ = some (.slice s2a2 s2n2 s2c2) ∧ (∀ j, w'.frozen? ⟨W.heap.size + 1 + 1, j, none⟩ = false) := fun w' h => ⟨box_new (by simp) (More.un (More.un h)) 0, box_new (by simp) (More.un (More.un h)) 1, box_new (by simp) (More.un (More.un h)) 2, box_new (by simp) (More.un (More.un h)) 3, box_new (by simp) (More.un (More.un h)) 4, box_new (by simp) (More.un (More.un h)) 5, fun j => box_free (by simp) (More.un (More.un h)) j, box_new (by simp) (More.un h) 0, box_new (by simp) (More.un h) 1, box_new (by simp) (More.un h) 2, fun j => box_free (by simp) (More.un h) j, box_new (by simp) h 0, box_new (by simp) h 1, box_new (by simp) h 2, fun j => box_free (by simp) h j⟩
    go_enter Try.func6, Try.ntmps6
    go_wp2_with fail
    refine (laws_szRat _ p _ _ (Ty.at_more HV1.out (Turns.more (by repeat (first | (with_reducible exact Turns.refl _ _) | (with_reducible apply Turns.drew) | (with_reducible apply Turns.drewN) | (with_reducible apply Turns.alloc) | (with_reducible refine Turns.via (by assumption) ?_))))) (by decide) (by decide)).mono ?_
    rintro e w1 ⟨rfl, b1⟩
    have HXa1 : Hid (More ((((W.alloc (.cells #[.int .i64 e.1.1, .int .i64 e.1.2, .int .i64 e.2.1.1, .int .i64 e.2.1.2, .int .i64 e.2.2.1, .bool e.2.2.2] 63)).alloc (.cells #[.bool p.1.1, .slice s1a1 s1n1 s1c1, .slice s1a2 s1n2 s1c2] 44)).alloc (.cells #[.bool q.1.1, .slice s2a1 s2n1 s2c1, .slice s2a2 s2n2 s2c2] 44))) w1) := Lib.hid (Turns.more (by repeat (first | (with_reducible exact Turns.refl _ _) | (with_reducible apply Turns.drew) | (with_reducible apply Turns.drewN) | (with_reducible apply Turns.alloc) | (with_reducible refine Turns.via (by assumption) ?_))))
    have HBw1 := HB _ HXa1.out
    have hsHB1_0 : W.heap.size < w1.heap.size := by have := (HXa1.out).size; simp at this; omega
    have hsHB1_1 : W.heap.size + 1 < w1.heap.size := by have := (HXa1.out).size; simp at this; omega
    have hsHB1_2 : W.heap.size + 2 < w1.heap.size := by have := (HXa1.out).size; simp at this; omega
    rw [szI_neg (by have := Hbad.out; omega)]
    go_wp2_with fail
    go_ret
    exact ⟨rfl, (Turns.more (by repeat (first | (with_reducible exact Turns.refl _ _) | (with_reducible apply Turns.drew) | (with_reducible apply Turns.drewN) | (with_reducible apply Turns.alloc) | (with_reducible refine Turns.via (by assumption) ?_))))⟩
  by_cases hn2 : ((wRat q : Nat) : Int) ≤ 1048576 - (wRat p : Nat)
  rotate_left
  · have Hbad := Lib.hid hn2; clear hn2
    have Hn1 := Lib.hid hn1; clear hn1
    have HX : More (((W.alloc (.cells #[.int .i64 e.1.1, .int .i64 e.1.2, .int .i64 e.2.1.1, .int .i64 e.2.1.2, .int .i64 e.2.2.1, .bool e.2.2.2] 63)).alloc (.cells #[.bool p.1.1, .slice s1a1 s1n1 s1c1, .slice s1a2 s1n2 s1c2] 44)).alloc (.cells #[.bool q.1.1, .slice s2a1 s2n1 s2c1, .slice s2a2 s2n2 s2c2] 44)) (((W.alloc (.cells #[.int .i64 e.1.1, .int .i64 e.1.2, .int .i64 e.2.1.1, .int .i64 e.2.1.2, .int .i64 e.2.2.1, .bool e.2.2.2] 63)).alloc (.cells #[.bool p.1.1, .slice s1a1 s1n1 s1c1, .slice s1a2 s1n2 s1c2] 44)).alloc (.cells #[.bool q.1.1, .slice s2a1 s2n1 s2c1, .slice s2a2 s2n2 s2c2] 44)) := More.refl _
    have HB : ∀ w', More (((W.alloc (.cells #[.int .i64 e.1.1, .int .i64 e.1.2, .int .i64 e.2.1.1, .int .i64 e.2.1.2, .int .i64 e.2.2.1, .bool e.2.2.2] 63)).alloc (.cells #[.bool p.1.1, .slice s1a1 s1n1 s1c1, .slice s1a2 s1n2 s1c2] 44)).alloc (.cells #[.bool q.1.1, .slice s2a1 s2n1 s2c1, .slice s2a2 s2n2 s2c2] 44)) w' → w'.cell? ⟨W.heap.size, 0, none⟩ = some (.int .i64 e.1.1) ∧ w'.cell? ⟨W.heap.size, 1, none⟩ = some (.int .i64 e.1.2) ∧ w'.cell? ⟨W.heap.size, 2, none⟩ = some (.int .i64 e.2.1.1) ∧ w'.cell? ⟨W.heap.size, 3, none⟩ = some (.int .i64 e.2.1.2) ∧ w'.cell? ⟨W.heap.size, 4, none⟩ = some (.int .i64 e.2.2.1) ∧ w'.cell? ⟨W.heap.size, 5, none⟩ = some (.bool e.2.2.2) ∧ (∀ j, w'.frozen? ⟨W.heap.size, j, none⟩ = false) ∧ w'.cell? ⟨W.heap.size + 1, 0, none⟩ = some (.bool p.1.1) ∧ w'.cell? ⟨W.heap.size + 1, 1, none⟩ = some (.slice s1a1 s1n1 s1c1) ∧ w'.cell? ⟨W.heap.size + 1, 2, none⟩ = some (.slice s1a2 s1n2 s1c2) ∧ (∀ j, w'.frozen? ⟨W.heap.size + 1, j, none⟩ = false) ∧ w'.cell? ⟨W.heap.size + 1 + 1, 0, none⟩ = some (.bool q.1.1) ∧ w'.cell? ⟨W.heap.size + 1 + 1, 1, none⟩ = some (.slice s2a1 s2n1 s2c1) ∧ w'.cell? ⟨W.heap.size + 1 + 1, 2, none⟩ = some (.slice s2a2 s2n2 s2c2) ∧ (∀ j, w'.frozen? ⟨W.heap.size + 1 + 1, j, none⟩ = false) := fun w' h => ⟨box_new (by simp) (More.un (More.un h)) 0, box_new (by simp) (More.un (More.un h)) 1, box_new (by simp) (More.un (More.un h)) 2, box_new (by simp) (More.un (More.un h)) 3, box_new (by simp) (More.un (More.un h)) 4, box_new (by simp) (More.un (More.un h)) 5, fun j => box_free (by simp) (More.un (More.un h)) j, box_new (by simp) (More.un h) 0, box_new (by simp) (More.un h) 1, box_new (by simp) (More.un h) 2, fun j => box_free (by simp) (More.un h) j, box_new (by simp) h 0, box_new (by simp) h 1, box_new (by simp) h 2, fun j => box_free (by simp) h j⟩
    go_enter Try.func6, Try.ntmps6
    go_wp2_with fail
    refine (laws_szRat _ p _ _ (Ty.at_more HV1.out (Turns.more (by repeat (first | (with_reducible exact Turns.refl _ _) | (with_reducible apply Turns.drew) | (with_reducible apply Turns.drewN) | (with_reducible apply Turns.alloc) | (with_reducible refine Turns.via (by assumption) ?_))))) (by decide) (by decide)).mono ?_
    rintro e w1 ⟨rfl, b1⟩
    have HXa1 : Hid (More ((((W.alloc (.cells #[.int .i64 e.1.1, .int .i64 e.1.2, .int .i64 e.2.1.1, .int .i64 e.2.1.2, .int .i64 e.2.2.1, .bool e.2.2.2] 63)).alloc (.cells #[.bool p.1.1, .slice s1a1 s1n1 s1c1, .slice s1a2 s1n2 s1c2] 44)).alloc (.cells #[.bool q.1.1, .slice s2a1 s2n1 s2c1, .slice s2a2 s2n2 s2c2] 44))) w1) := Lib.hid (Turns.more (by repeat (first | (with_reducible exact Turns.refl _ _) | (with_reducible apply Turns.drew) | (with_reducible apply Turns.drewN) | (with_reducible apply Turns.alloc) | (with_reducible refine Turns.via (by assumption) ?_))))
    have HBw1 := HB _ HXa1.out
    have hsHB1_0 : W.heap.size < w1.heap.size := by have := (HXa1.out).size; simp at this; omega
    have hsHB1_1 : W.heap.size + 1 < w1.heap.size := by have := (HXa1.out).size; simp at this; omega
    have hsHB1_2 : W.heap.size + 2 < w1.heap.size := by have := (HXa1.out).size; simp at this; omega
    rw [szI_pos (by have := Hn1.out; omega)]
    have z1 : 0 ≤ (1048576 : Int) - (wRat p : Nat) := by have := Hn1.out; omega
    go_wp2_with fail
    refine (laws_szRat _ q _ _ (Ty.at_more HV2.out (Turns.more (by repeat (first | (with_reducible exact Turns.refl _ _) | (with_reducible apply Turns.drew) | (with_reducible apply Turns.drewN) | (with_reducible apply Turns.alloc) | (with_reducible refine Turns.via (by assumption) ?_))))) (by have := Hn1.out; omega) (by omega)).mono ?_
    rintro e w2 ⟨rfl, b2⟩
    have HXa2 : Hid (More ((((W.alloc (.cells #[.int .i64 e.1.1, .int .i64 e.1.2, .int .i64 e.2.1.1, .int .i64 e.2.1.2, .int .i64 e.2.2.1, .bool e.2.2.2] 63)).alloc (.cells #[.bool p.1.1, .slice s1a1 s1n1 s1c1, .slice s1a2 s1n2 s1c2] 44)).alloc (.cells #[.bool q.1.1, .slice s2a1 s2n1 s2c1, .slice s2a2 s2n2 s2c2] 44))) w2) := Lib.hid (Turns.more (by repeat (first | (with_reducible exact Turns.refl _ _) | (with_reducible apply Turns.drew) | (with_reducible apply Turns.drewN) | (with_reducible apply Turns.alloc) | (with_reducible refine Turns.via (by assumption) ?_))))
    have HBw2 := HB _ HXa2.out
    have hsHB2_0 : W.heap.size < w2.heap.size := by have := (HXa2.out).size; simp at this; omega
    have hsHB2_1 : W.heap.size + 1 < w2.heap.size := by have := (HXa2.out).size; simp at this; omega
    have hsHB2_2 : W.heap.size + 2 < w2.heap.size := by have := (HXa2.out).size; simp at this; omega
    try clear HBw1
    rw [szI_neg (by have := Hbad.out; omega)]
    go_wp2_with fail
    go_ret
    exact ⟨rfl, (Turns.more (by repeat (first | (with_reducible exact Turns.refl _ _) | (with_reducible apply Turns.drew) | (with_reducible apply Turns.drewN) | (with_reducible apply Turns.alloc) | (with_reducible refine Turns.via (by assumption) ?_))))⟩
  have Hn1 := Lib.hid hn1
  have Hn2 := Lib.hid hn2
  have Hs1 : Hid (wRat p ≤ 1048576) := Lib.hid (by omega)
  have Hs2 : Hid (wRat q ≤ 1048576) := Lib.hid (by omega)
  clear hn1 hn2
  have HX : More (((W.alloc (.cells #[.int .i64 e.1.1, .int .i64 e.1.2, .int .i64 e.2.1.1, .int .i64 e.2.1.2, .int .i64 e.2.2.1, .bool e.2.2.2] 63)).alloc (.cells #[.bool p.1.1, .slice s1a1 s1n1 s1c1, .slice s1a2 s1n2 s1c2] 44)).alloc (.cells #[.bool q.1.1, .slice s2a1 s2n1 s2c1, .slice s2a2 s2n2 s2c2] 44)) (((W.alloc (.cells #[.int .i64 e.1.1, .int .i64 e.1.2, .int .i64 e.2.1.1, .int .i64 e.2.1.2, .int .i64 e.2.2.1, .bool e.2.2.2] 63)).alloc (.cells #[.bool p.1.1, .slice s1a1 s1n1 s1c1, .slice s1a2 s1n2 s1c2] 44)).alloc (.cells #[.bool q.1.1, .slice s2a1 s2n1 s2c1, .slice s2a2 s2n2 s2c2] 44)) := More.refl _
  have HB : ∀ w', More (((W.alloc (.cells #[.int .i64 e.1.1, .int .i64 e.1.2, .int .i64 e.2.1.1, .int .i64 e.2.1.2, .int .i64 e.2.2.1, .bool e.2.2.2] 63)).alloc (.cells #[.bool p.1.1, .slice s1a1 s1n1 s1c1, .slice s1a2 s1n2 s1c2] 44)).alloc (.cells #[.bool q.1.1, .slice s2a1 s2n1 s2c1, .slice s2a2 s2n2 s2c2] 44)) w' → w'.cell? ⟨W.heap.size, 0, none⟩ = some (.int .i64 e.1.1) ∧ w'.cell? ⟨W.heap.size, 1, none⟩ = some (.int .i64 e.1.2) ∧ w'.cell? ⟨W.heap.size, 2, none⟩ = some (.int .i64 e.2.1.1) ∧ w'.cell? ⟨W.heap.size, 3, none⟩ = some (.int .i64 e.2.1.2) ∧ w'.cell? ⟨W.heap.size, 4, none⟩ = some (.int .i64 e.2.2.1) ∧ w'.cell? ⟨W.heap.size, 5, none⟩ = some (.bool e.2.2.2) ∧ (∀ j, w'.frozen? ⟨W.heap.size, j, none⟩ = false) ∧ w'.cell? ⟨W.heap.size + 1, 0, none⟩ = some (.bool p.1.1) ∧ w'.cell? ⟨W.heap.size + 1, 1, none⟩ = some (.slice s1a1 s1n1 s1c1) ∧ w'.cell? ⟨W.heap.size + 1, 2, none⟩ = some (.slice s1a2 s1n2 s1c2) ∧ (∀ j, w'.frozen? ⟨W.heap.size + 1, j, none⟩ = false) ∧ w'.cell? ⟨W.heap.size + 1 + 1, 0, none⟩ = some (.bool q.1.1) ∧ w'.cell? ⟨W.heap.size + 1 + 1, 1, none⟩ = some (.slice s2a1 s2n1 s2c1) ∧ w'.cell? ⟨W.heap.size + 1 + 1, 2, none⟩ = some (.slice s2a2 s2n2 s2c2) ∧ (∀ j, w'.frozen? ⟨W.heap.size + 1 + 1, j, none⟩ = false) := fun w' h => ⟨box_new (by simp) (More.un (More.un h)) 0, box_new (by simp) (More.un (More.un h)) 1, box_new (by simp) (More.un (More.un h)) 2, box_new (by simp) (More.un (More.un h)) 3, box_new (by simp) (More.un (More.un h)) 4, box_new (by simp) (More.un (More.un h)) 5, fun j => box_free (by simp) (More.un (More.un h)) j, box_new (by simp) (More.un h) 0, box_new (by simp) (More.un h) 1, box_new (by simp) (More.un h) 2, fun j => box_free (by simp) (More.un h) j, box_new (by simp) h 0, box_new (by simp) h 1, box_new (by simp) h 2, fun j => box_free (by simp) h j⟩
  go_enter Try.func6, Try.ntmps6
  go_wp2_with fail
  refine (laws_szRat _ p _ _ (Ty.at_more HV1.out (Turns.more (by repeat (first | (with_reducible exact Turns.refl _ _) | (with_reducible apply Turns.drew) | (with_reducible apply Turns.drewN) | (with_reducible apply Turns.alloc) | (with_reducible refine Turns.via (by assumption) ?_))))) (by decide) (by decide)).mono ?_
  rintro e w1 ⟨rfl, b1⟩
  have HXa1 : Hid (More ((((W.alloc (.cells #[.int .i64 e.1.1, .int .i64 e.1.2, .int .i64 e.2.1.1, .int .i64 e.2.1.2, .int .i64 e.2.2.1, .bool e.2.2.2] 63)).alloc (.cells #[.bool p.1.1, .slice s1a1 s1n1 s1c1, .slice s1a2 s1n2 s1c2] 44)).alloc (.cells #[.bool q.1.1, .slice s2a1 s2n1 s2c1, .slice s2a2 s2n2 s2c2] 44))) w1) := Lib.hid (Turns.more (by repeat (first | (with_reducible exact Turns.refl _ _) | (with_reducible apply Turns.drew) | (with_reducible apply Turns.drewN) | (with_reducible apply Turns.alloc) | (with_reducible refine Turns.via (by assumption) ?_))))
  have HBw1 := HB _ HXa1.out
  have hsHB1_0 : W.heap.size < w1.heap.size := by have := (HXa1.out).size; simp at this; omega
  have hsHB1_1 : W.heap.size + 1 < w1.heap.size := by have := (HXa1.out).size; simp at this; omega
  have hsHB1_2 : W.heap.size + 2 < w1.heap.size := by have := (HXa1.out).size; simp at this; omega
  rw [szI_pos (by have := Hn1.out; omega)]
  have z1 : 0 ≤ (1048576 : Int) - (wRat p : Nat) := by have := Hn1.out; omega
  go_wp2_with fail
  refine (laws_szRat _ q _ _ (Ty.at_more HV2.out (Turns.more (by repeat (first | (with_reducible exact Turns.refl _ _) | (with_reducible apply Turns.drew) | (with_reducible apply Turns.drewN) | (with_reducible apply Turns.alloc) | (with_reducible refine Turns.via (by assumption) ?_))))) (by have := Hn1.out; omega) (by omega)).mono ?_
  rintro e w2 ⟨rfl, b2⟩
  have HXa2 : Hid (More ((((W.alloc (.cells #[.int .i64 e.1.1, .int .i64 e.1.2, .int .i64 e.2.1.1, .int .i64 e.2.1.2, .int .i64 e.2.2.1, .bool e.2.2.2] 63)).alloc (.cells #[.bool p.1.1, .slice s1a1 s1n1 s1c1, .slice s1a2 s1n2 s1c2] 44)).alloc (.cells #[.bool q.1.1, .slice s2a1 s2n1 s2c1, .slice s2a2 s2n2 s2c2] 44))) w2) := Lib.hid (Turns.more (by repeat (first | (with_reducible exact Turns.refl _ _) | (with_reducible apply Turns.drew) | (with_reducible apply Turns.drewN) | (with_reducible apply Turns.alloc) | (with_reducible refine Turns.via (by assumption) ?_))))
  have HBw2 := HB _ HXa2.out
  have hsHB2_0 : W.heap.size < w2.heap.size := by have := (HXa2.out).size; simp at this; omega
  have hsHB2_1 : W.heap.size + 1 < w2.heap.size := by have := (HXa2.out).size; simp at this; omega
  have hsHB2_2 : W.heap.size + 2 < w2.heap.size := by have := (HXa2.out).size; simp at this; omega
  try clear HBw1
  rw [szI_pos (by have := Hn2.out; omega)]
  have z2 : 0 ≤ (1048576 : Int) - (wRat p : Nat) - (wRat q : Nat) := by have := Hn2.out; omega
  go_wp2_with fail
  have RHB := fun (w' : World) (h : More w2 w') => HB w' (More.trans HXa2.out h)
  clear HBw2
  go_region_held3 (fun w' => More w2 w') (first | exact More.refl _ | exact (Turns.more (by repeat (first | (with_reducible exact Turns.refl _ _) | (with_reducible apply Turns.drew) | (with_reducible apply Turns.drewN) | (with_reducible apply Turns.alloc) | (with_reducible refine Turns.via (by assumption) ?_))))) (first | (go_at_call 39; (with_reducible refine (laws_toEdge _ e _ (Ty.at_more HV0.out (Turns.more (by repeat (first | (with_reducible exact Turns.refl _ _) | (with_reducible apply Turns.drew) | (with_reducible apply Turns.drewN) | (with_reducible apply Turns.alloc) | (with_reducible refine Turns.via (by assumption) ?_)))))).mono ?_); rintro e w3 ⟨rfl, b3⟩) | (go_at_call 40; (with_reducible refine (laws_toRat _ p _ (Ty.at_more HV1.out (Turns.more (by repeat (first | (with_reducible exact Turns.refl _ _) | (with_reducible apply Turns.drew) | (with_reducible apply Turns.drewN) | (with_reducible apply Turns.alloc) | (with_reducible refine Turns.via (by assumption) ?_))))) Hs1.out).mono ?_); rintro e w4 ⟨c1, rfl, b4, Fc1⟩; obtain ⟨c1za1, c1zn1, c1zc1, c1za2, c1zn2, c1zc2, rfl⟩ := sh_Rat (Ty.fresh_at Fc1)) | (go_at_call 40; (with_reducible refine (laws_toRat _ q _ (Ty.at_more HV2.out (Turns.more (by repeat (first | (with_reducible exact Turns.refl _ _) | (with_reducible apply Turns.drew) | (with_reducible apply Turns.drewN) | (with_reducible apply Turns.alloc) | (with_reducible refine Turns.via (by assumption) ?_))))) Hs2.out).mono ?_); rintro e w5 ⟨c2, rfl, b5, Fc2⟩; obtain ⟨c2za1, c2zn1, c2zc1, c2za2, c2zn2, c2zc2, rfl⟩ := sh_Rat (Ty.fresh_at Fc2)) | (go_at_call 38; (with_reducible refine (spec_SpansX e.1.1 e.1.2 e.2.1.1 e.2.1.2 e.2.2.1 e.2.2.2 _ p _ q _ (edge_in HV0.out).1 (edge_in HV0.out).2 (Ty.at_more (Ty.fresh_at Fc1) (Turns.more (by ((repeat (first | (with_reducible apply Turns.drew) | (with_reducible apply Turns.drewN) | (with_reducible apply Turns.alloc))); (with_reducible refine Turns.via b5 ?_); (repeat (first | (with_reducible apply Turns.drew) | (with_reducible apply Turns.drewN) | (with_reducible apply Turns.alloc))); exact Turns.refl _ _)))) Hs1.out (Ty.at_more (Ty.fresh_at Fc2) (Turns.more (by ((repeat (first | (with_reducible apply Turns.drew) | (with_reducible apply Turns.drewN) | (with_reducible apply Turns.alloc))); exact Turns.refl _ _)))) Hs2.out).mono ?_); rintro e w6 ⟨rfl, b6⟩))
  clear RHB
  have HXa6 : Hid (More ((((W.alloc (.cells #[.int .i64 e.1.1, .int .i64 e.1.2, .int .i64 e.2.1.1, .int .i64 e.2.1.2, .int .i64 e.2.2.1, .bool e.2.2.2] 63)).alloc (.cells #[.bool p.1.1, .slice s1a1 s1n1 s1c1, .slice s1a2 s1n2 s1c2] 44)).alloc (.cells #[.bool q.1.1, .slice s2a1 s2n1 s2c1, .slice s2a2 s2n2 s2c2] 44))) w6) := Lib.hid (Turns.more (by repeat (first | (with_reducible exact Turns.refl _ _) | (with_reducible apply Turns.drew) | (with_reducible apply Turns.drewN) | (with_reducible apply Turns.alloc) | (with_reducible refine Turns.via (by assumption) ?_))))
  have HBw6 := HB _ HXa6.out
  have hsHB6_0 : W.heap.size < w6.heap.size := by have := (HXa6.out).size; simp at this; omega
  have hsHB6_1 : W.heap.size + 1 < w6.heap.size := by have := (HXa6.out).size; simp at this; omega
  have hsHB6_2 : W.heap.size + 2 < w6.heap.size := by have := (HXa6.out).size; simp at this; omega
  try clear HBw5
  go_wp2_with fail
  refine (laws_toRat _ p _ (Ty.at_more HV1.out (Turns.more (by repeat (first | (with_reducible exact Turns.refl _ _) | (with_reducible apply Turns.drew) | (with_reducible apply Turns.drewN) | (with_reducible apply Turns.alloc) | (with_reducible refine Turns.via (by assumption) ?_))))) Hs1.out).mono ?_
  rintro e w7 ⟨x1, rfl, b7, Fx1⟩
  have HXa7 : Hid (More ((((W.alloc (.cells #[.int .i64 e.1.1, .int .i64 e.1.2, .int .i64 e.2.1.1, .int .i64 e.2.1.2, .int .i64 e.2.2.1, .bool e.2.2.2] 63)).alloc (.cells #[.bool p.1.1, .slice s1a1 s1n1 s1c1, .slice s1a2 s1n2 s1c2] 44)).alloc (.cells #[.bool q.1.1, .slice s2a1 s2n1 s2c1, .slice s2a2 s2n2 s2c2] 44))) w7) := Lib.hid (Turns.more (by repeat (first | (with_reducible exact Turns.refl _ _) | (with_reducible apply Turns.drew) | (with_reducible apply Turns.drewN) | (with_reducible apply Turns.alloc) | (with_reducible refine Turns.via (by assumption) ?_))))
  have HBw7 := HB _ HXa7.out
  have hsHB7_0 : W.heap.size < w7.heap.size := by have := (HXa7.out).size; simp at this; omega
  have hsHB7_1 : W.heap.size + 1 < w7.heap.size := by have := (HXa7.out).size; simp at this; omega
  have hsHB7_2 : W.heap.size + 2 < w7.heap.size := by have := (HXa7.out).size; simp at this; omega
  try clear HBw6
  obtain ⟨x1za1, x1zn1, x1zc1, x1za2, x1zn2, x1zc2, rfl⟩ := sh_Rat (Ty.fresh_at Fx1)
  have HBx1 : ∀ w', More (w7.alloc (.cells #[.bool p.1.1, .slice x1za1 x1zn1 x1zc1, .slice x1za2 x1zn2 x1zc2] 32)) w' → w'.cell? ⟨w7.heap.size, 0, none⟩ = some (.bool p.1.1) ∧ w'.cell? ⟨w7.heap.size, 1, none⟩ = some (.slice x1za1 x1zn1 x1zc1) ∧ w'.cell? ⟨w7.heap.size, 2, none⟩ = some (.slice x1za2 x1zn2 x1zc2) := fun w' h => ⟨box_new rfl h 0, box_new rfl h 1, box_new rfl h 2⟩
  go_wp2_with fail
  refine (laws_toRat _ q _ (Ty.at_more HV2.out (Turns.more (by repeat (first | (with_reducible exact Turns.refl _ _) | (with_reducible apply Turns.drew) | (with_reducible apply Turns.drewN) | (with_reducible apply Turns.alloc) | (with_reducible refine Turns.via (by assumption) ?_))))) Hs2.out).mono ?_
  rintro e w8 ⟨x2, rfl, b8, Fx2⟩
  have HXa8 : Hid (More ((((W.alloc (.cells #[.int .i64 e.1.1, .int .i64 e.1.2, .int .i64 e.2.1.1, .int .i64 e.2.1.2, .int .i64 e.2.2.1, .bool e.2.2.2] 63)).alloc (.cells #[.bool p.1.1, .slice s1a1 s1n1 s1c1, .slice s1a2 s1n2 s1c2] 44)).alloc (.cells #[.bool q.1.1, .slice s2a1 s2n1 s2c1, .slice s2a2 s2n2 s2c2] 44))) w8) := Lib.hid (Turns.more (by repeat (first | (with_reducible exact Turns.refl _ _) | (with_reducible apply Turns.drew) | (with_reducible apply Turns.drewN) | (with_reducible apply Turns.alloc) | (with_reducible refine Turns.via (by assumption) ?_))))
  have HBw8 := HB _ HXa8.out
  have hsHB8_0 : W.heap.size < w8.heap.size := by have := (HXa8.out).size; simp at this; omega
  have hsHB8_1 : W.heap.size + 1 < w8.heap.size := by have := (HXa8.out).size; simp at this; omega
  have hsHB8_2 : W.heap.size + 2 < w8.heap.size := by have := (HXa8.out).size; simp at this; omega
  try clear HBw7
  have HXx1_8 : Hid (More (w7.alloc (.cells #[.bool p.1.1, .slice x1za1 x1zn1 x1zc1, .slice x1za2 x1zn2 x1zc2] 32)) w8) := Lib.hid (Turns.more (by repeat (first | (with_reducible exact Turns.refl _ _) | (with_reducible apply Turns.drew) | (with_reducible apply Turns.drewN) | (with_reducible apply Turns.alloc) | (with_reducible refine Turns.via (by assumption) ?_))))
  have HBx1w8 := HBx1 _ HXx1_8.out
  have hsHBx18_0 : w7.heap.size < w8.heap.size := by have := (HXx1_8.out).size; simp at this; omega
  try clear HBx1w7
  obtain ⟨x2za1, x2zn1, x2zc1, x2za2, x2zn2, x2zc2, rfl⟩ := sh_Rat (Ty.fresh_at Fx2)
  have HBx2 : ∀ w', More (w8.alloc (.cells #[.bool q.1.1, .slice x2za1 x2zn1 x2zc1, .slice x2za2 x2zn2 x2zc2] 32)) w' → w'.cell? ⟨w8.heap.size, 0, none⟩ = some (.bool q.1.1) ∧ w'.cell? ⟨w8.heap.size, 1, none⟩ = some (.slice x2za1 x2zn1 x2zc1) ∧ w'.cell? ⟨w8.heap.size, 2, none⟩ = some (.slice x2za2 x2zn2 x2zc2) := fun w' h => ⟨box_new rfl h 0, box_new rfl h 1, box_new rfl h 2⟩
  go_wp2_with fail
  have RHB := fun (w' : World) (h : More (w8.alloc (.cells #[.bool q.1.1, .slice x2za1 x2zn1 x2zc1, .slice x2za2 x2zn2 x2zc2] 32)) w') => HB w' (More.trans HXa8.out (More.un h))
  clear HBw8
  have RHBx1 := fun (w' : World) (h : More (w8.alloc (.cells #[.bool q.1.1, .slice x2za1 x2zn1 x2zc1, .slice x2za2 x2zn2 x2zc2] 32)) w') => HBx1 w' (More.trans HXx1_8.out (More.un h))
  clear HBx1w8
  have RHBx2 := fun (w' : World) (h : More (w8.alloc (.cells #[.bool q.1.1, .slice x2za1 x2zn1 x2zc1, .slice x2za2 x2zn2 x2zc2] 32)) w') => HBx2 w' h
  go_region_held3 (fun w' => More (w8.alloc (.cells #[.bool q.1.1, .slice x2za1 x2zn1 x2zc1, .slice x2za2 x2zn2 x2zc2] 32)) w') (first | exact More.refl _ | exact (Turns.more (by repeat (first | (with_reducible exact Turns.refl _ _) | (with_reducible apply Turns.drew) | (with_reducible apply Turns.drewN) | (with_reducible apply Turns.alloc) | (with_reducible refine Turns.via (by assumption) ?_))))) (first | (go_at_call 39; (with_reducible refine (laws_toEdge _ e _ (Ty.at_more HV0.out (Turns.more (by repeat (first | (with_reducible exact Turns.refl _ _) | (with_reducible apply Turns.drew) | (with_reducible apply Turns.drewN) | (with_reducible apply Turns.alloc) | (with_reducible refine Turns.via (by assumption) ?_)))))).mono ?_); rintro e w9 ⟨rfl, b9⟩) | (go_at_call 26; (with_reducible refine (impl_SpansX e.1.1 e.1.2 e.2.1.1 e.2.1.2 e.2.2.1 e.2.2.2 _ p _ q _ (edge_in HV0.out).1 (edge_in HV0.out).2 (Ty.at_more (Ty.fresh_at Fx1) (Turns.more (by repeat (first | (with_reducible exact Turns.refl _ _) | (with_reducible apply Turns.drew) | (with_reducible apply Turns.drewN) | (with_reducible apply Turns.alloc) | (with_reducible refine Turns.via (by assumption) ?_))))) Hs1.out (Ty.at_more (Ty.fresh_at Fx2) (Turns.more (by repeat (first | (with_reducible exact Turns.refl _ _) | (with_reducible apply Turns.drew) | (with_reducible apply Turns.drewN) | (with_reducible apply Turns.alloc) | (with_reducible refine Turns.via (by assumption) ?_))))) Hs2.out).mono ?_); rintro e w10 ⟨rfl, b10⟩))
  clear RHB
  clear RHBx1
  clear RHBx2
  have HXa10 : Hid (More ((((W.alloc (.cells #[.int .i64 e.1.1, .int .i64 e.1.2, .int .i64 e.2.1.1, .int .i64 e.2.1.2, .int .i64 e.2.2.1, .bool e.2.2.2] 63)).alloc (.cells #[.bool p.1.1, .slice s1a1 s1n1 s1c1, .slice s1a2 s1n2 s1c2] 44)).alloc (.cells #[.bool q.1.1, .slice s2a1 s2n1 s2c1, .slice s2a2 s2n2 s2c2] 44))) w10) := Lib.hid (Turns.more (by repeat (first | (with_reducible exact Turns.refl _ _) | (with_reducible apply Turns.drew) | (with_reducible apply Turns.drewN) | (with_reducible apply Turns.alloc) | (with_reducible refine Turns.via (by assumption) ?_))))
  have HBw10 := HB _ HXa10.out
  have hsHB10_0 : W.heap.size < w10.heap.size := by have := (HXa10.out).size; simp at this; omega
  have hsHB10_1 : W.heap.size + 1 < w10.heap.size := by have := (HXa10.out).size; simp at this; omega
  have hsHB10_2 : W.heap.size + 2 < w10.heap.size := by have := (HXa10.out).size; simp at this; omega
  try clear HBw9
  have HXx1_10 : Hid (More (w7.alloc (.cells #[.bool p.1.1, .slice x1za1 x1zn1 x1zc1, .slice x1za2 x1zn2 x1zc2] 32)) w10) := Lib.hid (Turns.more (by repeat (first | (with_reducible exact Turns.refl _ _) | (with_reducible apply Turns.drew) | (with_reducible apply Turns.drewN) | (with_reducible apply Turns.alloc) | (with_reducible refine Turns.via (by assumption) ?_))))
  have HBx1w10 := HBx1 _ HXx1_10.out
  have hsHBx110_0 : w7.heap.size < w10.heap.size := by have := (HXx1_10.out).size; simp at this; omega
  try clear HBx1w9
  have HXx2_10 : Hid (More (w8.alloc (.cells #[.bool q.1.1, .slice x2za1 x2zn1 x2zc1, .slice x2za2 x2zn2 x2zc2] 32)) w10) := Lib.hid (Turns.more (by repeat (first | (with_reducible exact Turns.refl _ _) | (with_reducible apply Turns.drew) | (with_reducible apply Turns.drewN) | (with_reducible apply Turns.alloc) | (with_reducible refine Turns.via (by assumption) ?_))))
  have HBx2w10 := HBx2 _ HXx2_10.out
  have hsHBx210_0 : w8.heap.size < w10.heap.size := by have := (HXx2_10.out).size; simp at this; omega
  try clear HBx2w9
  go_wp2_with fail
  have RHB := fun (w' : World) (h : More w10 w') => HB w' (More.trans HXa10.out h)
  clear HBw10
  have RHBx1 := fun (w' : World) (h : More w10 w') => HBx1 w' (More.trans HXx1_10.out h)
  clear HBx1w10
  have RHBx2 := fun (w' : World) (h : More w10 w') => HBx2 w' (More.trans HXx2_10.out h)
  clear HBx2w10
  go_region_held3 (fun w' => More w10 w') (first | exact More.refl _ | exact (Turns.more (by repeat (first | (with_reducible exact Turns.refl _ _) | (with_reducible apply Turns.drew) | (with_reducible apply Turns.drewN) | (with_reducible apply Turns.alloc) | (with_reducible refine Turns.via (by assumption) ?_))))) (first | (go_at_call 40; (with_reducible refine (laws_toRat _ p _ (Ty.at_more HV1.out (Turns.more (by repeat (first | (with_reducible exact Turns.refl _ _) | (with_reducible apply Turns.drew) | (with_reducible apply Turns.drewN) | (with_reducible apply Turns.alloc) | (with_reducible refine Turns.via (by assumption) ?_))))) Hs1.out).mono ?_); rintro e w11 ⟨t1, rfl, b11, Ft1⟩; obtain ⟨t1za1, t1zn1, t1zc1, t1za2, t1zn2, t1zc2, rfl⟩ := sh_Rat (Ty.fresh_at Ft1)) | (go_at_call 41; (with_reducible refine (laws_eqRat _ _ p _ (Ty.at_more (Ty.fresh_at Fx1) (Turns.more (by repeat (first | (with_reducible exact Turns.refl _ _) | (with_reducible apply Turns.drew) | (with_reducible apply Turns.drewN) | (with_reducible apply Turns.alloc) | (with_reducible refine Turns.via (by assumption) ?_))))) (Ty.at_more (Ty.fresh_at Ft1) (Turns.more (by ((repeat (first | (with_reducible apply Turns.drew) | (with_reducible apply Turns.drewN) | (with_reducible apply Turns.alloc))); exact Turns.refl _ _)))) Hs1.out).mono ?_); rintro e w12 ⟨rfl, b12⟩))
  clear RHB
  clear RHBx1
  clear RHBx2
  have HXa12 : Hid (More ((((W.alloc (.cells #[.int .i64 e.1.1, .int .i64 e.1.2, .int .i64 e.2.1.1, .int .i64 e.2.1.2, .int .i64 e.2.2.1, .bool e.2.2.2] 63)).alloc (.cells #[.bool p.1.1, .slice s1a1 s1n1 s1c1, .slice s1a2 s1n2 s1c2] 44)).alloc (.cells #[.bool q.1.1, .slice s2a1 s2n1 s2c1, .slice s2a2 s2n2 s2c2] 44))) w12) := Lib.hid (Turns.more (by repeat (first | (with_reducible exact Turns.refl _ _) | (with_reducible apply Turns.drew) | (with_reducible apply Turns.drewN) | (with_reducible apply Turns.alloc) | (with_reducible refine Turns.via (by assumption) ?_))))
  have HBw12 := HB _ HXa12.out
  have hsHB12_0 : W.heap.size < w12.heap.size := by have := (HXa12.out).size; simp at this; omega
  have hsHB12_1 : W.heap.size + 1 < w12.heap.size := by have := (HXa12.out).size; simp at this; omega
  have hsHB12_2 : W.heap.size + 2 < w12.heap.size := by have := (HXa12.out).size; simp at this; omega
  try clear HBw11
  have HXx1_12 : Hid (More (w7.alloc (.cells #[.bool p.1.1, .slice x1za1 x1zn1 x1zc1, .slice x1za2 x1zn2 x1zc2] 32)) w12) := Lib.hid (Turns.more (by repeat (first | (with_reducible exact Turns.refl _ _) | (with_reducible apply Turns.drew) | (with_reducible apply Turns.drewN) | (with_reducible apply Turns.alloc) | (with_reducible refine Turns.via (by assumption) ?_))))
  have HBx1w12 := HBx1 _ HXx1_12.out
  have hsHBx112_0 : w7.heap.size < w12.heap.size := by have := (HXx1_12.out).size; simp at this; omega
  try clear HBx1w11
  have HXx2_12 : Hid (More (w8.alloc (.cells #[.bool q.1.1, .slice x2za1 x2zn1 x2zc1, .slice x2za2 x2zn2 x2zc2] 32)) w12) := Lib.hid (Turns.more (by repeat (first | (with_reducible exact Turns.refl _ _) | (with_reducible apply Turns.drew) | (with_reducible apply Turns.drewN) | (with_reducible apply Turns.alloc) | (with_reducible refine Turns.via (by assumption) ?_))))
  have HBx2w12 := HBx2 _ HXx2_12.out
  have hsHBx212_0 : w8.heap.size < w12.heap.size := by have := (HXx2_12.out).size; simp at this; omega
  try clear HBx2w11
  go_wp2_with fail
  have RHB := fun (w' : World) (h : More w12 w') => HB w' (More.trans HXa12.out h)
  clear HBw12
  have RHBx1 := fun (w' : World) (h : More w12 w') => HBx1 w' (More.trans HXx1_12.out h)
  clear HBx1w12
  have RHBx2 := fun (w' : World) (h : More w12 w') => HBx2 w' (More.trans HXx2_12.out h)
  clear HBx2w12
  go_region_held3 (fun w' => More w12 w') (first | exact More.refl _ | exact (Turns.more (by repeat (first | (with_reducible exact Turns.refl _ _) | (with_reducible apply Turns.drew) | (with_reducible apply Turns.drewN) | (with_reducible apply Turns.alloc) | (with_reducible refine Turns.via (by assumption) ?_))))) (first | (go_at_call 40; (with_reducible refine (laws_toRat _ q _ (Ty.at_more HV2.out (Turns.more (by repeat (first | (with_reducible exact Turns.refl _ _) | (with_reducible apply Turns.drew) | (with_reducible apply Turns.drewN) | (with_reducible apply Turns.alloc) | (with_reducible refine Turns.via (by assumption) ?_))))) Hs2.out).mono ?_); rintro e w13 ⟨t2, rfl, b13, Ft2⟩; obtain ⟨t2za1, t2zn1, t2zc1, t2za2, t2zn2, t2zc2, rfl⟩ := sh_Rat (Ty.fresh_at Ft2)) | (go_at_call 41; (with_reducible refine (laws_eqRat _ _ q _ (Ty.at_more (Ty.fresh_at Fx2) (Turns.more (by repeat (first | (with_reducible exact Turns.refl _ _) | (with_reducible apply Turns.drew) | (with_reducible apply Turns.drewN) | (with_reducible apply Turns.alloc) | (with_reducible refine Turns.via (by assumption) ?_))))) (Ty.at_more (Ty.fresh_at Ft2) (Turns.more (by ((repeat (first | (with_reducible apply Turns.drew) | (with_reducible apply Turns.drewN) | (with_reducible apply Turns.alloc))); exact Turns.refl _ _)))) Hs2.out).mono ?_); rintro e w14 ⟨rfl, b14⟩))
  clear RHB
  clear RHBx1
  clear RHBx2
  have HXa14 : Hid (More ((((W.alloc (.cells #[.int .i64 e.1.1, .int .i64 e.1.2, .int .i64 e.2.1.1, .int .i64 e.2.1.2, .int .i64 e.2.2.1, .bool e.2.2.2] 63)).alloc (.cells #[.bool p.1.1, .slice s1a1 s1n1 s1c1, .slice s1a2 s1n2 s1c2] 44)).alloc (.cells #[.bool q.1.1, .slice s2a1 s2n1 s2c1, .slice s2a2 s2n2 s2c2] 44))) w14) := Lib.hid (Turns.more (by repeat (first | (with_reducible exact Turns.refl _ _) | (with_reducible apply Turns.drew) | (with_reducible apply Turns.drewN) | (with_reducible apply Turns.alloc) | (with_reducible refine Turns.via (by assumption) ?_))))
  have HBw14 := HB _ HXa14.out
  have hsHB14_0 : W.heap.size < w14.heap.size := by have := (HXa14.out).size; simp at this; omega
  have hsHB14_1 : W.heap.size + 1 < w14.heap.size := by have := (HXa14.out).size; simp at this; omega
  have hsHB14_2 : W.heap.size + 2 < w14.heap.size := by have := (HXa14.out).size; simp at this; omega
  try clear HBw13
  have HXx1_14 : Hid (More (w7.alloc (.cells #[.bool p.1.1, .slice x1za1 x1zn1 x1zc1, .slice x1za2 x1zn2 x1zc2] 32)) w14) := Lib.hid (Turns.more (by repeat (first | (with_reducible exact Turns.refl _ _) | (with_reducible apply Turns.drew) | (with_reducible apply Turns.drewN) | (with_reducible apply Turns.alloc) | (with_reducible refine Turns.via (by assumption) ?_))))
  have HBx1w14 := HBx1 _ HXx1_14.out
  have hsHBx114_0 : w7.heap.size < w14.heap.size := by have := (HXx1_14.out).size; simp at this; omega
  try clear HBx1w13
  have HXx2_14 : Hid (More (w8.alloc (.cells #[.bool q.1.1, .slice x2za1 x2zn1 x2zc1, .slice x2za2 x2zn2 x2zc2] 32)) w14) := Lib.hid (Turns.more (by repeat (first | (with_reducible exact Turns.refl _ _) | (with_reducible apply Turns.drew) | (with_reducible apply Turns.drewN) | (with_reducible apply Turns.alloc) | (with_reducible refine Turns.via (by assumption) ?_))))
  have HBx2w14 := HBx2 _ HXx2_14.out
  have hsHBx214_0 : w8.heap.size < w14.heap.size := by have := (HXx2_14.out).size; simp at this; omega
  try clear HBx2w13
  go_wp2_with fail
  go_ret
  exact ⟨rfl, (Turns.more (by repeat (first | (with_reducible exact Turns.refl _ _) | (with_reducible apply Turns.drew) | (with_reducible apply Turns.drewN) | (with_reducible apply Turns.alloc) | (with_reducible refine Turns.via (by assumption) ?_))))⟩
end Go.Proofs.Ytkhcblheekfdmaa
