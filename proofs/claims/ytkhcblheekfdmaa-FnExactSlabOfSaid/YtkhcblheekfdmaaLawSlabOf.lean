/- FnExactSlabOf returns true, for every input. -/
import Derived.Test.YtkhcblheekfdmaaSlab
import Derived.Test.YtkhcblheekfdmaaSzRatS
import Derived.Test.YtkhcblheekfdmaaToRatS
import Derived.Test.YtkhcblheekfdmaaEqRatS
import Derived.Deep.RegionHeld3
namespace Go.Proofs.Ytkhcblheekfdmaa
open Go.RowKit
set_option maxHeartbeats 3200000 in
theorem law_SlabOf {W : World} (v0 : Value) (l : List (QR)) (hv0 : tRatS.at W [v0] l) (ca1 : Array Value) (z : QR) (hv1 : tRat.at W ca1.toList z) :
    Calls Try.prog 7 #[v0, .agg ca1] W fun e w' => e = .returned (.bool true) ∧ More W w' := by
  have HV0 := Lib.hid hv0; clear hv0
  obtain ⟨s1a1, s1n1, s1c1, s1a2, s1n2, s1c2, es1⟩ := sh_Rat hv1
  rw [es1] at hv1
  obtain rfl := arr_of es1
  clear es1
  have HV1 := Lib.hid hv1; clear hv1
  by_cases hn0 : ((wRatS l : Nat) : Int) ≤ 1048576
  rotate_left
  · have Hbad := Lib.hid hn0; clear hn0
    have HX : More (W.alloc (.cells #[.bool z.1.1, .slice s1a1 s1n1 s1c1, .slice s1a2 s1n2 s1c2] 44)) (W.alloc (.cells #[.bool z.1.1, .slice s1a1 s1n1 s1c1, .slice s1a2 s1n2 s1c2] 44)) := More.refl _
    have HB : ∀ w', More (W.alloc (.cells #[.bool z.1.1, .slice s1a1 s1n1 s1c1, .slice s1a2 s1n2 s1c2] 44)) w' → w'.cell? ⟨W.heap.size, 0, none⟩ = some (.bool z.1.1) ∧ w'.cell? ⟨W.heap.size, 1, none⟩ = some (.slice s1a1 s1n1 s1c1) ∧ w'.cell? ⟨W.heap.size, 2, none⟩ = some (.slice s1a2 s1n2 s1c2) ∧ (∀ j, w'.frozen? ⟨W.heap.size, j, none⟩ = false) := fun w' h => ⟨box_new (by simp) h 0, box_new (by simp) h 1, box_new (by simp) h 2, fun j => box_free (by simp) h j⟩
    go_enter Try.func7, Try.ntmps7
    go_wp2_with fail
    refine (laws_szRatS _ l _ _ (Ty.at_more HV0.out (Turns.more (by repeat (first | (with_reducible exact Turns.refl _ _) | (with_reducible apply Turns.drew) | (with_reducible apply Turns.drewN) | (with_reducible apply Turns.alloc) | (with_reducible refine Turns.via (by assumption) ?_))))) (by decide) (by decide)).mono ?_
    rintro e w1 ⟨rfl, b1⟩
    have HXa1 : Hid (More ((W.alloc (.cells #[.bool z.1.1, .slice s1a1 s1n1 s1c1, .slice s1a2 s1n2 s1c2] 44))) w1) := Lib.hid (Turns.more (by repeat (first | (with_reducible exact Turns.refl _ _) | (with_reducible apply Turns.drew) | (with_reducible apply Turns.drewN) | (with_reducible apply Turns.alloc) | (with_reducible refine Turns.via (by assumption) ?_))))
    have HBw1 := HB _ HXa1.out
    have hsHB1_0 : W.heap.size < w1.heap.size := by have := (HXa1.out).size; simp at this; omega
    rw [szI_neg (by have := Hbad.out; omega)]
    go_wp2_with fail
    go_ret
    exact ⟨rfl, (Turns.more (by repeat (first | (with_reducible exact Turns.refl _ _) | (with_reducible apply Turns.drew) | (with_reducible apply Turns.drewN) | (with_reducible apply Turns.alloc) | (with_reducible refine Turns.via (by assumption) ?_))))⟩
  by_cases hn1 : ((wRat z : Nat) : Int) ≤ 1048576 - (wRatS l : Nat)
  rotate_left
  · have Hbad := Lib.hid hn1; clear hn1
    have Hn0 := Lib.hid hn0; clear hn0
    have HX : More (W.alloc (.cells #[.bool z.1.1, .slice s1a1 s1n1 s1c1, .slice s1a2 s1n2 s1c2] 44)) (W.alloc (.cells #[.bool z.1.1, .slice s1a1 s1n1 s1c1, .slice s1a2 s1n2 s1c2] 44)) := More.refl _
    have HB : ∀ w', More (W.alloc (.cells #[.bool z.1.1, .slice s1a1 s1n1 s1c1, .slice s1a2 s1n2 s1c2] 44)) w' → w'.cell? ⟨W.heap.size, 0, none⟩ = some (.bool z.1.1) ∧ w'.cell? ⟨W.heap.size, 1, none⟩ = some (.slice s1a1 s1n1 s1c1) ∧ w'.cell? ⟨W.heap.size, 2, none⟩ = some (.slice s1a2 s1n2 s1c2) ∧ (∀ j, w'.frozen? ⟨W.heap.size, j, none⟩ = false) := fun w' h => ⟨box_new (by simp) h 0, box_new (by simp) h 1, box_new (by simp) h 2, fun j => box_free (by simp) h j⟩
    go_enter Try.func7, Try.ntmps7
    go_wp2_with fail
    refine (laws_szRatS _ l _ _ (Ty.at_more HV0.out (Turns.more (by repeat (first | (with_reducible exact Turns.refl _ _) | (with_reducible apply Turns.drew) | (with_reducible apply Turns.drewN) | (with_reducible apply Turns.alloc) | (with_reducible refine Turns.via (by assumption) ?_))))) (by decide) (by decide)).mono ?_
    rintro e w1 ⟨rfl, b1⟩
    have HXa1 : Hid (More ((W.alloc (.cells #[.bool z.1.1, .slice s1a1 s1n1 s1c1, .slice s1a2 s1n2 s1c2] 44))) w1) := Lib.hid (Turns.more (by repeat (first | (with_reducible exact Turns.refl _ _) | (with_reducible apply Turns.drew) | (with_reducible apply Turns.drewN) | (with_reducible apply Turns.alloc) | (with_reducible refine Turns.via (by assumption) ?_))))
    have HBw1 := HB _ HXa1.out
    have hsHB1_0 : W.heap.size < w1.heap.size := by have := (HXa1.out).size; simp at this; omega
    rw [szI_pos (by have := Hn0.out; omega)]
    have z0 : 0 ≤ (1048576 : Int) - (wRatS l : Nat) := by have := Hn0.out; omega
    go_wp2_with fail
    refine (laws_szRat _ z _ _ (Ty.at_more HV1.out (Turns.more (by repeat (first | (with_reducible exact Turns.refl _ _) | (with_reducible apply Turns.drew) | (with_reducible apply Turns.drewN) | (with_reducible apply Turns.alloc) | (with_reducible refine Turns.via (by assumption) ?_))))) (by have := Hn0.out; omega) (by omega)).mono ?_
    rintro e w2 ⟨rfl, b2⟩
    have HXa2 : Hid (More ((W.alloc (.cells #[.bool z.1.1, .slice s1a1 s1n1 s1c1, .slice s1a2 s1n2 s1c2] 44))) w2) := Lib.hid (Turns.more (by repeat (first | (with_reducible exact Turns.refl _ _) | (with_reducible apply Turns.drew) | (with_reducible apply Turns.drewN) | (with_reducible apply Turns.alloc) | (with_reducible refine Turns.via (by assumption) ?_))))
    have HBw2 := HB _ HXa2.out
    have hsHB2_0 : W.heap.size < w2.heap.size := by have := (HXa2.out).size; simp at this; omega
    try clear HBw1
    rw [szI_neg (by have := Hbad.out; omega)]
    go_wp2_with fail
    go_ret
    exact ⟨rfl, (Turns.more (by repeat (first | (with_reducible exact Turns.refl _ _) | (with_reducible apply Turns.drew) | (with_reducible apply Turns.drewN) | (with_reducible apply Turns.alloc) | (with_reducible refine Turns.via (by assumption) ?_))))⟩
  have Hn0 := Lib.hid hn0
  have Hn1 := Lib.hid hn1
  have Hs0 : Hid (wRatS l ≤ 1048576) := Lib.hid (by omega)
  have Hs1 : Hid (wRat z ≤ 1048576) := Lib.hid (by omega)
  clear hn0 hn1
  have HX : More (W.alloc (.cells #[.bool z.1.1, .slice s1a1 s1n1 s1c1, .slice s1a2 s1n2 s1c2] 44)) (W.alloc (.cells #[.bool z.1.1, .slice s1a1 s1n1 s1c1, .slice s1a2 s1n2 s1c2] 44)) := More.refl _
  have HB : ∀ w', More (W.alloc (.cells #[.bool z.1.1, .slice s1a1 s1n1 s1c1, .slice s1a2 s1n2 s1c2] 44)) w' → w'.cell? ⟨W.heap.size, 0, none⟩ = some (.bool z.1.1) ∧ w'.cell? ⟨W.heap.size, 1, none⟩ = some (.slice s1a1 s1n1 s1c1) ∧ w'.cell? ⟨W.heap.size, 2, none⟩ = some (.slice s1a2 s1n2 s1c2) ∧ (∀ j, w'.frozen? ⟨W.heap.size, j, none⟩ = false) := fun w' h => ⟨box_new (by simp) h 0, box_new (by simp) h 1, box_new (by simp) h 2, fun j => box_free (by simp) h j⟩
  go_enter Try.func7, Try.ntmps7
  go_wp2_with fail
  refine (laws_szRatS _ l _ _ (Ty.at_more HV0.out (Turns.more (by repeat (first | (with_reducible exact Turns.refl _ _) | (with_reducible apply Turns.drew) | (with_reducible apply Turns.drewN) | (with_reducible apply Turns.alloc) | (with_reducible refine Turns.via (by assumption) ?_))))) (by decide) (by decide)).mono ?_
  rintro e w1 ⟨rfl, b1⟩
  have HXa1 : Hid (More ((W.alloc (.cells #[.bool z.1.1, .slice s1a1 s1n1 s1c1, .slice s1a2 s1n2 s1c2] 44))) w1) := Lib.hid (Turns.more (by repeat (first | (with_reducible exact Turns.refl _ _) | (with_reducible apply Turns.drew) | (with_reducible apply Turns.drewN) | (with_reducible apply Turns.alloc) | (with_reducible refine Turns.via (by assumption) ?_))))
  have HBw1 := HB _ HXa1.out
  have hsHB1_0 : W.heap.size < w1.heap.size := by have := (HXa1.out).size; simp at this; omega
  rw [szI_pos (by have := Hn0.out; omega)]
  have z0 : 0 ≤ (1048576 : Int) - (wRatS l : Nat) := by have := Hn0.out; omega
  go_wp2_with fail
  refine (laws_szRat _ z _ _ (Ty.at_more HV1.out (Turns.more (by repeat (first | (with_reducible exact Turns.refl _ _) | (with_reducible apply Turns.drew) | (with_reducible apply Turns.drewN) | (with_reducible apply Turns.alloc) | (with_reducible refine Turns.via (by assumption) ?_))))) (by have := Hn0.out; omega) (by omega)).mono ?_
  rintro e w2 ⟨rfl, b2⟩
  have HXa2 : Hid (More ((W.alloc (.cells #[.bool z.1.1, .slice s1a1 s1n1 s1c1, .slice s1a2 s1n2 s1c2] 44))) w2) := Lib.hid (Turns.more (by repeat (first | (with_reducible exact Turns.refl _ _) | (with_reducible apply Turns.drew) | (with_reducible apply Turns.drewN) | (with_reducible apply Turns.alloc) | (with_reducible refine Turns.via (by assumption) ?_))))
  have HBw2 := HB _ HXa2.out
  have hsHB2_0 : W.heap.size < w2.heap.size := by have := (HXa2.out).size; simp at this; omega
  try clear HBw1
  rw [szI_pos (by have := Hn1.out; omega)]
  have z1 : 0 ≤ (1048576 : Int) - (wRatS l : Nat) - (wRat z : Nat) := by have := Hn1.out; omega
  go_wp2_with fail
  have RHB := fun (w' : World) (h : More w2 w') => HB w' (More.trans HXa2.out h)
  clear HBw2
  go_region_held3 (fun w' => More w2 w') (first | exact More.refl _ | exact (Turns.more (by repeat (first | (with_reducible exact Turns.refl _ _) | (with_reducible apply Turns.drew) | (with_reducible apply Turns.drewN) | (with_reducible apply Turns.alloc) | (with_reducible refine Turns.via (by assumption) ?_))))) (first | (go_at_call 34; (with_reducible refine (laws_toRatS _ l _ (Ty.at_more HV0.out (Turns.more (by repeat (first | (with_reducible exact Turns.refl _ _) | (with_reducible apply Turns.drew) | (with_reducible apply Turns.drewN) | (with_reducible apply Turns.alloc) | (with_reducible refine Turns.via (by assumption) ?_))))) Hs0.out).mono ?_); rintro e w3 ⟨c0, rfl, b3, Fc0⟩) | (go_at_call 40; (with_reducible refine (laws_toRat _ z _ (Ty.at_more HV1.out (Turns.more (by repeat (first | (with_reducible exact Turns.refl _ _) | (with_reducible apply Turns.drew) | (with_reducible apply Turns.drewN) | (with_reducible apply Turns.alloc) | (with_reducible refine Turns.via (by assumption) ?_))))) Hs1.out).mono ?_); rintro e w4 ⟨c1, rfl, b4, Fc1⟩; obtain ⟨c1za1, c1zn1, c1zc1, c1za2, c1zn2, c1zc2, rfl⟩ := sh_Rat (Ty.fresh_at Fc1)) | (go_at_call 42; (with_reducible refine (spec_SlabOf _ l _ z _ (Ty.at_more (Ty.fresh_at Fc0) (Turns.more (by ((repeat (first | (with_reducible apply Turns.drew) | (with_reducible apply Turns.drewN) | (with_reducible apply Turns.alloc))); (with_reducible refine Turns.via b4 ?_); (repeat (first | (with_reducible apply Turns.drew) | (with_reducible apply Turns.drewN) | (with_reducible apply Turns.alloc))); exact Turns.refl _ _)))) (rats_small Hs0.out) (Ty.at_more (Ty.fresh_at Fc1) (Turns.more (by ((repeat (first | (with_reducible apply Turns.drew) | (with_reducible apply Turns.drewN) | (with_reducible apply Turns.alloc))); exact Turns.refl _ _)))) Hs1.out).mono ?_); rintro e w5 ⟨rfl, b5⟩))
  clear RHB
  have HXa5 : Hid (More ((W.alloc (.cells #[.bool z.1.1, .slice s1a1 s1n1 s1c1, .slice s1a2 s1n2 s1c2] 44))) w5) := Lib.hid (Turns.more (by repeat (first | (with_reducible exact Turns.refl _ _) | (with_reducible apply Turns.drew) | (with_reducible apply Turns.drewN) | (with_reducible apply Turns.alloc) | (with_reducible refine Turns.via (by assumption) ?_))))
  have HBw5 := HB _ HXa5.out
  have hsHB5_0 : W.heap.size < w5.heap.size := by have := (HXa5.out).size; simp at this; omega
  try clear HBw4
  go_wp2_with fail
  refine (laws_toRatS _ l _ (Ty.at_more HV0.out (Turns.more (by repeat (first | (with_reducible exact Turns.refl _ _) | (with_reducible apply Turns.drew) | (with_reducible apply Turns.drewN) | (with_reducible apply Turns.alloc) | (with_reducible refine Turns.via (by assumption) ?_))))) Hs0.out).mono ?_
  rintro e w6 ⟨x0, rfl, b6, Fx0⟩
  have HXa6 : Hid (More ((W.alloc (.cells #[.bool z.1.1, .slice s1a1 s1n1 s1c1, .slice s1a2 s1n2 s1c2] 44))) w6) := Lib.hid (Turns.more (by repeat (first | (with_reducible exact Turns.refl _ _) | (with_reducible apply Turns.drew) | (with_reducible apply Turns.drewN) | (with_reducible apply Turns.alloc) | (with_reducible refine Turns.via (by assumption) ?_))))
  have HBw6 := HB _ HXa6.out
  have hsHB6_0 : W.heap.size < w6.heap.size := by have := (HXa6.out).size; simp at this; omega
  try clear HBw5
  go_wp2_with fail
  refine (laws_toRat _ z _ (Ty.at_more HV1.out (Turns.more (by repeat (first | (with_reducible exact Turns.refl _ _) | (with_reducible apply Turns.drew) | (with_reducible apply Turns.drewN) | (with_reducible apply Turns.alloc) | (with_reducible refine Turns.via (by assumption) ?_))))) Hs1.out).mono ?_
  rintro e w7 ⟨x1, rfl, b7, Fx1⟩
  have HXa7 : Hid (More ((W.alloc (.cells #[.bool z.1.1, .slice s1a1 s1n1 s1c1, .slice s1a2 s1n2 s1c2] 44))) w7) := Lib.hid (Turns.more (by repeat (first | (with_reducible exact Turns.refl _ _) | (with_reducible apply Turns.drew) | (with_reducible apply Turns.drewN) | (with_reducible apply Turns.alloc) | (with_reducible refine Turns.via (by assumption) ?_))))
  have HBw7 := HB _ HXa7.out
  have hsHB7_0 : W.heap.size < w7.heap.size := by have := (HXa7.out).size; simp at this; omega
  try clear HBw6
  obtain ⟨x1za1, x1zn1, x1zc1, x1za2, x1zn2, x1zc2, rfl⟩ := sh_Rat (Ty.fresh_at Fx1)
  have HBx1 : ∀ w', More (w7.alloc (.cells #[.bool z.1.1, .slice x1za1 x1zn1 x1zc1, .slice x1za2 x1zn2 x1zc2] 32)) w' → w'.cell? ⟨w7.heap.size, 0, none⟩ = some (.bool z.1.1) ∧ w'.cell? ⟨w7.heap.size, 1, none⟩ = some (.slice x1za1 x1zn1 x1zc1) ∧ w'.cell? ⟨w7.heap.size, 2, none⟩ = some (.slice x1za2 x1zn2 x1zc2) := fun w' h => ⟨box_new rfl h 0, box_new rfl h 1, box_new rfl h 2⟩
  go_wp2_with fail
  refine (impl_SlabOf _ l _ z _ (Ty.at_more (Ty.fresh_at Fx0) (Turns.more (by repeat (first | (with_reducible exact Turns.refl _ _) | (with_reducible apply Turns.drew) | (with_reducible apply Turns.drewN) | (with_reducible apply Turns.alloc) | (with_reducible refine Turns.via (by assumption) ?_))))) (rats_small Hs0.out) (Ty.at_more (Ty.fresh_at Fx1) (Turns.more (by repeat (first | (with_reducible exact Turns.refl _ _) | (with_reducible apply Turns.drew) | (with_reducible apply Turns.drewN) | (with_reducible apply Turns.alloc) | (with_reducible refine Turns.via (by assumption) ?_))))) Hs1.out).mono ?_
  rintro e w8 ⟨rfl, b8⟩
  have HXa8 : Hid (More ((W.alloc (.cells #[.bool z.1.1, .slice s1a1 s1n1 s1c1, .slice s1a2 s1n2 s1c2] 44))) w8) := Lib.hid (Turns.more (by repeat (first | (with_reducible exact Turns.refl _ _) | (with_reducible apply Turns.drew) | (with_reducible apply Turns.drewN) | (with_reducible apply Turns.alloc) | (with_reducible refine Turns.via (by assumption) ?_))))
  have HBw8 := HB _ HXa8.out
  have hsHB8_0 : W.heap.size < w8.heap.size := by have := (HXa8.out).size; simp at this; omega
  try clear HBw7
  have HXx1_8 : Hid (More (w7.alloc (.cells #[.bool z.1.1, .slice x1za1 x1zn1 x1zc1, .slice x1za2 x1zn2 x1zc2] 32)) w8) := Lib.hid (Turns.more (by repeat (first | (with_reducible exact Turns.refl _ _) | (with_reducible apply Turns.drew) | (with_reducible apply Turns.drewN) | (with_reducible apply Turns.alloc) | (with_reducible refine Turns.via (by assumption) ?_))))
  have HBx1w8 := HBx1 _ HXx1_8.out
  have hsHBx18_0 : w7.heap.size < w8.heap.size := by have := (HXx1_8.out).size; simp at this; omega
  try clear HBx1w7
  go_wp2_with fail
  refine (laws_toRatS _ l _ (Ty.at_more HV0.out (Turns.more (by repeat (first | (with_reducible exact Turns.refl _ _) | (with_reducible apply Turns.drew) | (with_reducible apply Turns.drewN) | (with_reducible apply Turns.alloc) | (with_reducible refine Turns.via (by assumption) ?_))))) Hs0.out).mono ?_
  rintro e w9 ⟨t0, rfl, b9, Ft0⟩
  have HXa9 : Hid (More ((W.alloc (.cells #[.bool z.1.1, .slice s1a1 s1n1 s1c1, .slice s1a2 s1n2 s1c2] 44))) w9) := Lib.hid (Turns.more (by repeat (first | (with_reducible exact Turns.refl _ _) | (with_reducible apply Turns.drew) | (with_reducible apply Turns.drewN) | (with_reducible apply Turns.alloc) | (with_reducible refine Turns.via (by assumption) ?_))))
  have HBw9 := HB _ HXa9.out
  have hsHB9_0 : W.heap.size < w9.heap.size := by have := (HXa9.out).size; simp at this; omega
  try clear HBw8
  have HXx1_9 : Hid (More (w7.alloc (.cells #[.bool z.1.1, .slice x1za1 x1zn1 x1zc1, .slice x1za2 x1zn2 x1zc2] 32)) w9) := Lib.hid (Turns.more (by repeat (first | (with_reducible exact Turns.refl _ _) | (with_reducible apply Turns.drew) | (with_reducible apply Turns.drewN) | (with_reducible apply Turns.alloc) | (with_reducible refine Turns.via (by assumption) ?_))))
  have HBx1w9 := HBx1 _ HXx1_9.out
  have hsHBx19_0 : w7.heap.size < w9.heap.size := by have := (HXx1_9.out).size; simp at this; omega
  try clear HBx1w8
  go_wp2_with fail
  refine (laws_eqRatS _ _ l _ (Ty.at_more (Ty.fresh_at Fx0) (Turns.more (by repeat (first | (with_reducible exact Turns.refl _ _) | (with_reducible apply Turns.drew) | (with_reducible apply Turns.drewN) | (with_reducible apply Turns.alloc) | (with_reducible refine Turns.via (by assumption) ?_))))) (Ty.at_more (Ty.fresh_at Ft0) (Turns.more (by repeat (first | (with_reducible exact Turns.refl _ _) | (with_reducible apply Turns.drew) | (with_reducible apply Turns.drewN) | (with_reducible apply Turns.alloc) | (with_reducible refine Turns.via (by assumption) ?_))))) Hs0.out).mono ?_
  rintro e w10 ⟨rfl, b10⟩
  have HXa10 : Hid (More ((W.alloc (.cells #[.bool z.1.1, .slice s1a1 s1n1 s1c1, .slice s1a2 s1n2 s1c2] 44))) w10) := Lib.hid (Turns.more (by repeat (first | (with_reducible exact Turns.refl _ _) | (with_reducible apply Turns.drew) | (with_reducible apply Turns.drewN) | (with_reducible apply Turns.alloc) | (with_reducible refine Turns.via (by assumption) ?_))))
  have HBw10 := HB _ HXa10.out
  have hsHB10_0 : W.heap.size < w10.heap.size := by have := (HXa10.out).size; simp at this; omega
  try clear HBw9
  have HXx1_10 : Hid (More (w7.alloc (.cells #[.bool z.1.1, .slice x1za1 x1zn1 x1zc1, .slice x1za2 x1zn2 x1zc2] 32)) w10) := Lib.hid (Turns.more (by repeat (first | (with_reducible exact Turns.refl _ _) | (with_reducible apply Turns.drew) | (with_reducible apply Turns.drewN) | (with_reducible apply Turns.alloc) | (with_reducible refine Turns.via (by assumption) ?_))))
  have HBx1w10 := HBx1 _ HXx1_10.out
  have hsHBx110_0 : w7.heap.size < w10.heap.size := by have := (HXx1_10.out).size; simp at this; omega
  try clear HBx1w9
  go_wp2_with fail
  have RHB := fun (w' : World) (h : More w10 w') => HB w' (More.trans HXa10.out h)
  clear HBw10
  have RHBx1 := fun (w' : World) (h : More w10 w') => HBx1 w' (More.trans HXx1_10.out h)
  clear HBx1w10
  go_region_held3 (fun w' => More w10 w') (first | exact More.refl _ | exact (Turns.more (by repeat (first | (with_reducible exact Turns.refl _ _) | (with_reducible apply Turns.drew) | (with_reducible apply Turns.drewN) | (with_reducible apply Turns.alloc) | (with_reducible refine Turns.via (by assumption) ?_))))) (first | (go_at_call 40; (with_reducible refine (laws_toRat _ z _ (Ty.at_more HV1.out (Turns.more (by repeat (first | (with_reducible exact Turns.refl _ _) | (with_reducible apply Turns.drew) | (with_reducible apply Turns.drewN) | (with_reducible apply Turns.alloc) | (with_reducible refine Turns.via (by assumption) ?_))))) Hs1.out).mono ?_); rintro e w11 ⟨t1, rfl, b11, Ft1⟩; obtain ⟨t1za1, t1zn1, t1zc1, t1za2, t1zn2, t1zc2, rfl⟩ := sh_Rat (Ty.fresh_at Ft1)) | (go_at_call 41; (with_reducible refine (laws_eqRat _ _ z _ (Ty.at_more (Ty.fresh_at Fx1) (Turns.more (by repeat (first | (with_reducible exact Turns.refl _ _) | (with_reducible apply Turns.drew) | (with_reducible apply Turns.drewN) | (with_reducible apply Turns.alloc) | (with_reducible refine Turns.via (by assumption) ?_))))) (Ty.at_more (Ty.fresh_at Ft1) (Turns.more (by ((repeat (first | (with_reducible apply Turns.drew) | (with_reducible apply Turns.drewN) | (with_reducible apply Turns.alloc))); exact Turns.refl _ _)))) Hs1.out).mono ?_); rintro e w12 ⟨rfl, b12⟩))
  clear RHB
  clear RHBx1
  have HXa12 : Hid (More ((W.alloc (.cells #[.bool z.1.1, .slice s1a1 s1n1 s1c1, .slice s1a2 s1n2 s1c2] 44))) w12) := Lib.hid (Turns.more (by repeat (first | (with_reducible exact Turns.refl _ _) | (with_reducible apply Turns.drew) | (with_reducible apply Turns.drewN) | (with_reducible apply Turns.alloc) | (with_reducible refine Turns.via (by assumption) ?_))))
  have HBw12 := HB _ HXa12.out
  have hsHB12_0 : W.heap.size < w12.heap.size := by have := (HXa12.out).size; simp at this; omega
  try clear HBw11
  have HXx1_12 : Hid (More (w7.alloc (.cells #[.bool z.1.1, .slice x1za1 x1zn1 x1zc1, .slice x1za2 x1zn2 x1zc2] 32)) w12) := Lib.hid (Turns.more (by repeat (first | (with_reducible exact Turns.refl _ _) | (with_reducible apply Turns.drew) | (with_reducible apply Turns.drewN) | (with_reducible apply Turns.alloc) | (with_reducible refine Turns.via (by assumption) ?_))))
  have HBx1w12 := HBx1 _ HXx1_12.out
  have hsHBx112_0 : w7.heap.size < w12.heap.size := by have := (HXx1_12.out).size; simp at this; omega
  try clear HBx1w11
  go_wp2_with fail
  go_ret
  exact ⟨rfl, (Turns.more (by repeat (first | (with_reducible exact Turns.refl _ _) | (with_reducible apply Turns.drew) | (with_reducible apply Turns.drewN) | (with_reducible apply Turns.alloc) | (with_reducible refine Turns.via (by assumption) ?_))))⟩
end Go.Proofs.Ytkhcblheekfdmaa
