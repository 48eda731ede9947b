/- FnExactHeightAt returns true, for every input. -/
import Derived.Test.YtkhcblheekfdmaaHgt
import Derived.Test.YtkhcblheekfdmaaToEdge
import Derived.Test.YtkhcblheekfdmaaGHelp
import Derived.Test.YtkhcblheekfdmaaGMk
import Derived.Test.YtkhcblheekfdmaaCutL
import Derived.Deep.RegionHeld3
namespace Go.Proofs.Ytkhcblheekfdmaa
open Go.RowKit
set_option maxRecDepth 8000 in
set_option maxHeartbeats 12800000 in
theorem law_HeightAt {W : World} (ca0 : Array Value) (e : QE) (hv0 : tEdge.at W ca0.toList e) (ca1 : Array Value) (x : QR) (hv1 : tRat.at W ca1.toList x) :
    Calls Try.prog 13 #[.agg ca0, .agg ca1] W fun e w' => e = .returned (.bool true) ∧ More W w' := by
  have es0 := sh_Edge hv0
  rw [es0] at hv0
  obtain rfl := arr_of es0
  clear es0
  have HV0 := Lib.hid hv0; clear hv0
  obtain ⟨s1a1, s1n1, s1c1, s1a2, s1n2, s1c2, es1⟩ := sh_Rat hv1
  rw [es1] at hv1
  obtain rfl := arr_of es1
  clear es1
  have HV1 := Lib.hid hv1; clear hv1
  by_cases hn1 : ((wRat x : Nat) : Int) ≤ 1048576
  rotate_left
  · have Hbad := Lib.hid hn1; clear hn1
    have HBa0 : ∀ w', More ((W.alloc (.cells #[.int .i64 e.1.1, .int .i64 e.1.2, .int .i64 e.2.1.1, .int .i64 e.2.1.2, .int .i64 e.2.2.1, .bool e.2.2.2] 63)).alloc (.cells #[.bool x.1.1, .slice s1a1 s1n1 s1c1, .slice s1a2 s1n2 s1c2] 44)) w' → w'.cell? ⟨W.heap.size, 0, none⟩ = some (.int .i64 e.1.1) ∧ w'.cell? ⟨W.heap.size, 1, none⟩ = some (.int .i64 e.1.2) ∧ w'.cell? ⟨W.heap.size, 2, none⟩ = some (.int .i64 e.2.1.1) ∧ w'.cell? ⟨W.heap.size, 3, none⟩ = some (.int .i64 e.2.1.2) ∧ w'.cell? ⟨W.heap.size, 4, none⟩ = some (.int .i64 e.2.2.1) ∧ w'.cell? ⟨W.heap.size, 5, none⟩ = some (.bool e.2.2.2) := fun w' h => ⟨box_new (by simp) (More.un h) 0, box_new (by simp) (More.un h) 1, box_new (by simp) (More.un h) 2, box_new (by simp) (More.un h) 3, box_new (by simp) (More.un h) 4, box_new (by simp) (More.un h) 5⟩
    have HBa1 : ∀ w', More ((W.alloc (.cells #[.int .i64 e.1.1, .int .i64 e.1.2, .int .i64 e.2.1.1, .int .i64 e.2.1.2, .int .i64 e.2.2.1, .bool e.2.2.2] 63)).alloc (.cells #[.bool x.1.1, .slice s1a1 s1n1 s1c1, .slice s1a2 s1n2 s1c2] 44)) w' → w'.cell? ⟨W.heap.size + 1, 0, none⟩ = some (.bool x.1.1) ∧ w'.cell? ⟨W.heap.size + 1, 1, none⟩ = some (.slice s1a1 s1n1 s1c1) ∧ w'.cell? ⟨W.heap.size + 1, 2, none⟩ = some (.slice s1a2 s1n2 s1c2) := fun w' h => ⟨box_new (by simp) h 0, box_new (by simp) h 1, box_new (by simp) h 2⟩
    go_enter Try.func13, Try.ntmps13
    go_wp2_with fail
    refine (laws_szRat _ x _ _ (Ty.at_more HV1.out mC) (by decide) (by decide)).mono ?_
    rintro e w1 ⟨rfl, b1⟩
    have HBa0_1 := HBa0 w1 mC
    have HBa0s1 : W.heap.size < w1.heap.size := by have := More.size (show More ((W.alloc (.cells #[.int .i64 e.1.1, .int .i64 e.1.2, .int .i64 e.2.1.1, .int .i64 e.2.1.2, .int .i64 e.2.2.1, .bool e.2.2.2] 63)).alloc (.cells #[.bool x.1.1, .slice s1a1 s1n1 s1c1, .slice s1a2 s1n2 s1c2] 44)) w1 from mC); simp at this; omega
    have HBa1_1 := HBa1 w1 mC
    have HBa1s1 : W.heap.size + 1 < w1.heap.size := by have := More.size (show More ((W.alloc (.cells #[.int .i64 e.1.1, .int .i64 e.1.2, .int .i64 e.2.1.1, .int .i64 e.2.1.2, .int .i64 e.2.2.1, .bool e.2.2.2] 63)).alloc (.cells #[.bool x.1.1, .slice s1a1 s1n1 s1c1, .slice s1a2 s1n2 s1c2] 44)) w1 from mC); simp at this; omega
    rw [szI_neg (by have := Hbad.out; omega)]
    go_wp2_with fail
    go_ret
    exact ⟨rfl, mC⟩
  have Hn1 := Lib.hid hn1
  have Hs1 : Hid (wRat x ≤ 1048576) := Lib.hid (by omega)
  clear hn1
  obtain ⟨r, er⟩ : ∃ r, r = encR (hgtF e x) := ⟨_, rfl⟩
  have ER := Lib.hid er
  have HrL : Hid (wRat r ≤ 1048576) := Lib.hid (by rw [er]; exact hgtF_len e x)
  clear er
  have HrC : Hid (cRat r ≤ 8388608) := Lib.hid (by have h := cRat_le r; have h2 := HrL.out; omega)
  have HC1 : Hid (cRat x ≤ 8388608) := Lib.hid (by have h := cRat_le x; have h2 := Hs1.out; omega)
  have HBa0 : ∀ w', More ((W.alloc (.cells #[.int .i64 e.1.1, .int .i64 e.1.2, .int .i64 e.2.1.1, .int .i64 e.2.1.2, .int .i64 e.2.2.1, .bool e.2.2.2] 63)).alloc (.cells #[.bool x.1.1, .slice s1a1 s1n1 s1c1, .slice s1a2 s1n2 s1c2] 44)) w' → w'.cell? ⟨W.heap.size, 0, none⟩ = some (.int .i64 e.1.1) ∧ w'.cell? ⟨W.heap.size, 1, none⟩ = some (.int .i64 e.1.2) ∧ w'.cell? ⟨W.heap.size, 2, none⟩ = some (.int .i64 e.2.1.1) ∧ w'.cell? ⟨W.heap.size, 3, none⟩ = some (.int .i64 e.2.1.2) ∧ w'.cell? ⟨W.heap.size, 4, none⟩ = some (.int .i64 e.2.2.1) ∧ w'.cell? ⟨W.heap.size, 5, none⟩ = some (.bool e.2.2.2) := fun w' h => ⟨box_new (by simp) (More.un h) 0, box_new (by simp) (More.un h) 1, box_new (by simp) (More.un h) 2, box_new (by simp) (More.un h) 3, box_new (by simp) (More.un h) 4, box_new (by simp) (More.un h) 5⟩
  have HBa1 : ∀ w', More ((W.alloc (.cells #[.int .i64 e.1.1, .int .i64 e.1.2, .int .i64 e.2.1.1, .int .i64 e.2.1.2, .int .i64 e.2.2.1, .bool e.2.2.2] 63)).alloc (.cells #[.bool x.1.1, .slice s1a1 s1n1 s1c1, .slice s1a2 s1n2 s1c2] 44)) w' → w'.cell? ⟨W.heap.size + 1, 0, none⟩ = some (.bool x.1.1) ∧ w'.cell? ⟨W.heap.size + 1, 1, none⟩ = some (.slice s1a1 s1n1 s1c1) ∧ w'.cell? ⟨W.heap.size + 1, 2, none⟩ = some (.slice s1a2 s1n2 s1c2) := fun w' h => ⟨box_new (by simp) h 0, box_new (by simp) h 1, box_new (by simp) h 2⟩
  go_enter Try.func13, Try.ntmps13
  go_wp2_with fail
  refine (laws_szRat _ x _ _ (Ty.at_more HV1.out mC) (by decide) (by decide)).mono ?_
  rintro e w1 ⟨rfl, b1⟩
  have HBa0_1 := HBa0 w1 mC
  have HBa0s1 : W.heap.size < w1.heap.size := by have := More.size (show More ((W.alloc (.cells #[.int .i64 e.1.1, .int .i64 e.1.2, .int .i64 e.2.1.1, .int .i64 e.2.1.2, .int .i64 e.2.2.1, .bool e.2.2.2] 63)).alloc (.cells #[.bool x.1.1, .slice s1a1 s1n1 s1c1, .slice s1a2 s1n2 s1c2] 44)) w1 from mC); simp at this; omega
  have HBa1_1 := HBa1 w1 mC
  have HBa1s1 : W.heap.size + 1 < w1.heap.size := by have := More.size (show More ((W.alloc (.cells #[.int .i64 e.1.1, .int .i64 e.1.2, .int .i64 e.2.1.1, .int .i64 e.2.1.2, .int .i64 e.2.2.1, .bool e.2.2.2] 63)).alloc (.cells #[.bool x.1.1, .slice s1a1 s1n1 s1c1, .slice s1a2 s1n2 s1c2] 44)) w1 from mC); simp at this; omega
  rw [szI_pos (by have := Hn1.out; omega)]
  have z1 : 0 ≤ (1048576 : Int) - (wRat x : Nat) := by have := Hn1.out; omega
  go_wp2_with fail
  have RHBa0 := fun (w' : World) (h : More w1 w') => HBa0 w' (More.trans (show More (((W.alloc (.cells #[.int .i64 e.1.1, .int .i64 e.1.2, .int .i64 e.2.1.1, .int .i64 e.2.1.2, .int .i64 e.2.2.1, .bool e.2.2.2] 63)).alloc (.cells #[.bool x.1.1, .slice s1a1 s1n1 s1c1, .slice s1a2 s1n2 s1c2] 44))) w1 from mC) h)
  clear HBa0_1
  have RHBa1 := fun (w' : World) (h : More w1 w') => HBa1 w' (More.trans (show More (((W.alloc (.cells #[.int .i64 e.1.1, .int .i64 e.1.2, .int .i64 e.2.1.1, .int .i64 e.2.1.2, .int .i64 e.2.2.1, .bool e.2.2.2] 63)).alloc (.cells #[.bool x.1.1, .slice s1a1 s1n1 s1c1, .slice s1a2 s1n2 s1c2] 44))) w1 from mC) h)
  clear HBa1_1
  go_cut [6] (fun sl wx => ∃ (nb : Nat) (yra1 : Option Addr) (yrn1 : Nat) (yrc1 : Nat) (yra2 : Option Addr) (yrn2 : Nat) (yrc2 : Nat), sl = .pointer (some ⟨nb, 0, none⟩) ∧ More w1 wx ∧ w1.heap.size ≤ nb ∧ Box3 wx nb (.bool r.1.1) (.slice yra1 yrn1 yrc1) (.slice yra2 yrn2 yrc2) ∧ Hid (∃ bs, tRat.own bs wx [.bool r.1.1, .slice yra1 yrn1 yrc1, .slice yra2 yrn2 yrc2] r ∧ bs.Nodup ∧ (∀ b ∈ bs, w1.heap.size ≤ b) ∧ nb ∉ bs))
  case first =>
    go_region_held3 (fun w' => More w1 w') (first | exact More.refl _ | exact mC2) (first | (go_at_call 39; (with_reducible refine (laws_toEdge _ e _ (Ty.at_more HV0.out mC)).mono ?_); rintro e w2 ⟨rfl, b2⟩; (have z2 : w1.heap.size ≤ w2.heap.size := by have := b2.size; (try simp at this); omega); (try (have N0 : Box3 w2 (w1.heap.size) (.bool false) (.slice none 0 0) (.slice none 0 0) := Box3.newD (by simp) b2)); (try (have n0c0 := N0.c0; have n0c1 := N0.c1; have n0fr := N0.fr; have n0c2 := N0.c2))) | (go_at_call 40; (with_reducible refine (laws_toRat _ x _ (Ty.at_more HV1.out mC) Hs1.out).mono ?_); rintro e w3 ⟨c1, rfl, b3, Fc1⟩; obtain ⟨c1za1, c1zn1, c1zc1, c1za2, c1zn2, c1zc2, rfl⟩ := sh_Rat (Ty.fresh_at Fc1); (have z3 : w1.heap.size ≤ w3.heap.size := by have := b3.size; (try simp at this); omega); (try (have N0 : Box3 w3 (w1.heap.size) (.bool false) (.slice none 0 0) (.slice none 0 0) := Box3.keep N0 b3)); (try (have n0c0 := N0.c0; have n0c1 := N0.c1; have n0fr := N0.fr; have n0c2 := N0.c2)); (try (have N1 : Box3 w3 (w2.heap.size) (.bool false) (.slice none 0 0) (.slice none 0 0) := Box3.new (by simp) b3)); (try (have n1c0 := N1.c0; have n1c1 := N1.c1; have n1fr := N1.fr; have n1c2 := N1.c2))) | (go_at_call 63; (with_reducible refine (spec_HeightAtL e _ x _ (edge_in HV0.out).1 (edge_in HV0.out).2 (Ty.at_more (Ty.fresh_at Fc1) (Turns.more (by ((repeat (first | (with_reducible apply Turns.drew) | (with_reducible apply Turns.drewN) | (with_reducible apply Turns.alloc))); exact Turns.refl _ _)))) Hs1.out).mono ?_); rintro e w4 ⟨q9, rfl, b4, F9⟩; rw [← ER.out] at F9; obtain ⟨yra1, yrn1, yrc1, yra2, yrn2, yrc2, rfl⟩ := sh_Rat (Ty.fresh_at F9); have F9h := Lib.hid F9; clear F9; (have z4 : w1.heap.size ≤ w4.heap.size := by have := b4.size; (try simp at this); omega); (try (have N0 : Box3 w4 (w1.heap.size) (.bool false) (.slice none 0 0) (.slice none 0 0) := Box3.keep N0 b4)); (try (have n0c0 := N0.c0; have n0c1 := N0.c1; have n0fr := N0.fr; have n0c2 := N0.c2)); (try (have N1 : Box3 w4 (w2.heap.size) (.bool false) (.slice none 0 0) (.slice none 0 0) := Box3.keep N1 b4)); (try (have n1c0 := N1.c0; have n1c1 := N1.c1; have n1fr := N1.fr; have n1c2 := N1.c2)); (try (have N2 : Box3 w4 (w3.heap.size) (.bool false) (.slice none 0 0) (.slice none 0 0) := Box3.new (by simp) b4)); (try (have n2c0 := N2.c0; have n2c1 := N2.c1; have n2fr := N2.fr; have n2c2 := N2.c2))))
    all_goals
      go_wp2_with fail
      go_meet
      first | exact ⟨w4.heap.size, _, _, _, _, _, _, rfl, mC, More.size (show More w1 w4 from mC), Box3.new rfl (More.refl _), Lib.hid (fresh_after F9h.out (by have s2 := b2.size; (try simp at s2); have s3 := b3.size; (try simp at s3); have s4 := b4.size; (try simp at s4); (try simp) <;> omega) _)⟩ | exact ⟨w1.heap.size, _, _, _, _, _, _, rfl, Box3.more (show More w1 w4 from mC) (by have s2 := b2.size; (try simp at s2); have s3 := b3.size; (try simp at s3); have s4 := b4.size; (try simp at s4); omega), (by have s2 := b2.size; (try simp at s2); have s3 := b3.size; (try simp at s3); have s4 := b4.size; (try simp at s4); omega), Box3.set N0, Lib.hid (fresh_before F9h.out (by have s2 := b2.size; (try simp at s2); have s3 := b3.size; (try simp at s3); have s4 := b4.size; (try simp at s4); (try simp) <;> omega) (by have s2 := b2.size; (try simp at s2); have s3 := b3.size; (try simp at s3); have s4 := b4.size; (try simp at s4); (try simp) <;> omega) ((((Turns.refl _ _).setCell (.inl (by simp)) _).setCell (.inl (by simp)) _).setCell (.inl (by simp)) _))⟩ | exact ⟨w2.heap.size, _, _, _, _, _, _, rfl, Box3.more (show More w1 w4 from mC) (by have s2 := b2.size; (try simp at s2); have s3 := b3.size; (try simp at s3); have s4 := b4.size; (try simp at s4); omega), (by have s2 := b2.size; (try simp at s2); have s3 := b3.size; (try simp at s3); have s4 := b4.size; (try simp at s4); omega), Box3.set N1, Lib.hid (fresh_before F9h.out (by have s2 := b2.size; (try simp at s2); have s3 := b3.size; (try simp at s3); have s4 := b4.size; (try simp at s4); (try simp) <;> omega) (by have s2 := b2.size; (try simp at s2); have s3 := b3.size; (try simp at s3); have s4 := b4.size; (try simp at s4); (try simp) <;> omega) ((((Turns.refl _ _).setCell (.inl (by simp)) _).setCell (.inl (by simp)) _).setCell (.inl (by simp)) _))⟩ | exact ⟨w3.heap.size, _, _, _, _, _, _, rfl, Box3.more (show More w1 w4 from mC) (by have s2 := b2.size; (try simp at s2); have s3 := b3.size; (try simp at s3); have s4 := b4.size; (try simp at s4); omega), (by have s2 := b2.size; (try simp at s2); have s3 := b3.size; (try simp at s3); have s4 := b4.size; (try simp at s4); omega), Box3.set N2, Lib.hid (fresh_before F9h.out (by have s2 := b2.size; (try simp at s2); have s3 := b3.size; (try simp at s3); have s4 := b4.size; (try simp at s4); (try simp) <;> omega) (by have s2 := b2.size; (try simp at s2); have s3 := b3.size; (try simp at s3); have s4 := b4.size; (try simp at s4); (try simp) <;> omega) ((((Turns.refl _ _).setCell (.inl (by simp)) _).setCell (.inl (by simp)) _).setCell (.inl (by simp)) _))⟩
  case rest =>
  rename World => w5
  obtain ⟨nby, yra1, yrn1, yrc1, yra2, yrn2, yrc2, rfl, b5, hny, hBy, hFy⟩ := hcut
  have Fy : tRat.fresh w1.heap.size w5 [.bool r.1.1, .slice yra1 yrn1 yrc1, .slice yra2 yrn2 yrc2] r := by obtain ⟨q1, q2, q3, q4, _⟩ := hFy.out; exact ⟨q1, q2, q3, q4⟩
  clear RHBa0
  clear RHBa1
  have HBy : ∀ w', More w5 w' → w'.cell? ⟨nby, 0, none⟩ = some (.bool r.1.1) ∧ w'.cell? ⟨nby, 1, none⟩ = some (.slice yra1 yrn1 yrc1) ∧ w'.cell? ⟨nby, 2, none⟩ = some (.slice yra2 yrn2 yrc2) := fun w' h => ⟨(hBy.keep h).c0, (hBy.keep h).c1, (hBy.keep h).c2⟩
  have HByz := hBy.lt
  have HBa0_5 := HBa0 w5 mC
  have HBa0s5 : W.heap.size < w5.heap.size := by have := More.size (show More ((W.alloc (.cells #[.int .i64 e.1.1, .int .i64 e.1.2, .int .i64 e.2.1.1, .int .i64 e.2.1.2, .int .i64 e.2.2.1, .bool e.2.2.2] 63)).alloc (.cells #[.bool x.1.1, .slice s1a1 s1n1 s1c1, .slice s1a2 s1n2 s1c2] 44)) w5 from mC); simp at this; omega
  try clear HBa0_4
  try clear HBa0s4
  have HBa1_5 := HBa1 w5 mC
  have HBa1s5 : W.heap.size + 1 < w5.heap.size := by have := More.size (show More ((W.alloc (.cells #[.int .i64 e.1.1, .int .i64 e.1.2, .int .i64 e.2.1.1, .int .i64 e.2.1.2, .int .i64 e.2.2.1, .bool e.2.2.2] 63)).alloc (.cells #[.bool x.1.1, .slice s1a1 s1n1 s1c1, .slice s1a2 s1n2 s1c2] 44)) w5 from mC); simp at this; omega
  try clear HBa1_4
  try clear HBa1s4
  have HBy_5 := HBy w5 (More.refl _)
  have HBys5 := HByz
  go_wp2_with fail
  refine (laws_toRat _ x _ (Ty.at_more HV1.out mC) Hs1.out).mono ?_
  rintro e w6 ⟨x1, rfl, b6, bx1, X1, nx1, lx1⟩
  have HBa0ltx1 : ∀ k ∈ bx1, W.heap.size < k := fun k hk => Nat.lt_of_lt_of_le (show W.heap.size < (((W.alloc (.cells #[.int .i64 e.1.1, .int .i64 e.1.2, .int .i64 e.2.1.1, .int .i64 e.2.1.2, .int .i64 e.2.2.1, .bool e.2.2.2] 63)).alloc (.cells #[.bool x.1.1, .slice s1a1 s1n1 s1c1, .slice s1a2 s1n2 s1c2] 44))).heap.size from by (simp; try omega)) (Nat.le_trans (More.size (show More (((W.alloc (.cells #[.int .i64 e.1.1, .int .i64 e.1.2, .int .i64 e.2.1.1, .int .i64 e.2.1.2, .int .i64 e.2.2.1, .bool e.2.2.2] 63)).alloc (.cells #[.bool x.1.1, .slice s1a1 s1n1 s1c1, .slice s1a2 s1n2 s1c2] 44))) _ from mC)) (lx1 k hk))
  have HBa1ltx1 : ∀ k ∈ bx1, W.heap.size + 1 < k := fun k hk => Nat.lt_of_lt_of_le (show W.heap.size + 1 < (((W.alloc (.cells #[.int .i64 e.1.1, .int .i64 e.1.2, .int .i64 e.2.1.1, .int .i64 e.2.1.2, .int .i64 e.2.2.1, .bool e.2.2.2] 63)).alloc (.cells #[.bool x.1.1, .slice s1a1 s1n1 s1c1, .slice s1a2 s1n2 s1c2] 44))).heap.size from by (simp; try omega)) (Nat.le_trans (More.size (show More (((W.alloc (.cells #[.int .i64 e.1.1, .int .i64 e.1.2, .int .i64 e.2.1.1, .int .i64 e.2.1.2, .int .i64 e.2.2.1, .bool e.2.2.2] 63)).alloc (.cells #[.bool x.1.1, .slice s1a1 s1n1 s1c1, .slice s1a2 s1n2 s1c2] 44))) _ from mC)) (lx1 k hk))
  have HByltx1 : ∀ k ∈ bx1, nby < k := fun k hk => Nat.lt_of_lt_of_le (show nby < (w5).heap.size from by exact HByz) (Nat.le_trans (More.size (show More (w5) _ from mC)) (lx1 k hk))
  obtain ⟨x1za1, x1zn1, x1zc1, x1za2, x1zn2, x1zc2, rfl⟩ := sh_Rat (Ty.rd_at (tRat.own_rd X1))
  have HBa0_6 := HBa0 w6 mC
  have HBa0s6 : W.heap.size < w6.heap.size := by have := More.size (show More ((W.alloc (.cells #[.int .i64 e.1.1, .int .i64 e.1.2, .int .i64 e.2.1.1, .int .i64 e.2.1.2, .int .i64 e.2.2.1, .bool e.2.2.2] 63)).alloc (.cells #[.bool x.1.1, .slice s1a1 s1n1 s1c1, .slice s1a2 s1n2 s1c2] 44)) w6 from mC); simp at this; omega
  try clear HBa0_5
  try clear HBa0s5
  have HBa1_6 := HBa1 w6 mC
  have HBa1s6 : W.heap.size + 1 < w6.heap.size := by have := More.size (show More ((W.alloc (.cells #[.int .i64 e.1.1, .int .i64 e.1.2, .int .i64 e.2.1.1, .int .i64 e.2.1.2, .int .i64 e.2.2.1, .bool e.2.2.2] 63)).alloc (.cells #[.bool x.1.1, .slice s1a1 s1n1 s1c1, .slice s1a2 s1n2 s1c2] 44)) w6 from mC); simp at this; omega
  try clear HBa1_5
  try clear HBa1s5
  have HBy_6 := HBy w6 mC
  have HBys6 : nby < w6.heap.size := by have := More.size (show More w5 w6 from mC); have := HByz; omega
  try clear HBy_5
  try clear HBys5
  have HBx1 : ∀ w', More (w6.alloc (.cells #[.bool x.1.1, .slice x1za1 x1zn1 x1zc1, .slice x1za2 x1zn2 x1zc2] 32)) w' → w'.cell? ⟨w6.heap.size, 0, none⟩ = some (.bool x.1.1) ∧ w'.cell? ⟨w6.heap.size, 1, none⟩ = some (.slice x1za1 x1zn1 x1zc1) ∧ w'.cell? ⟨w6.heap.size, 2, none⟩ = some (.slice x1za2 x1zn2 x1zc2) := fun w' h => ⟨box_new (by simp) h 0, box_new (by simp) h 1, box_new (by simp) h 2⟩
  have HBx1gex1 : w6.heap.size ≤ w6.heap.size := by have := More.size (show More w6 w6 from mC); omega
  go_wp2_with fail
  obtain ⟨w7, hW7⟩ : ∃ q9, (w6.alloc (.cells #[.bool x.1.1, .slice x1za1 x1zn1 x1zc1, .slice x1za2 x1zn2 x1zc2] 32)) = q9 := ⟨_, rfl⟩
  have b7 : More w6 w7 := by rw [← hW7]; exact Turns.more ((Turns.refl [] _).alloc _)
  have HBx1' := HBx1
  clear HBx1
  have HBx1 : ∀ w', More w7 w' → w'.cell? ⟨w6.heap.size, 0, none⟩ = some (.bool x.1.1) ∧ w'.cell? ⟨w6.heap.size, 1, none⟩ = some (.slice x1za1 x1zn1 x1zc1) ∧ w'.cell? ⟨w6.heap.size, 2, none⟩ = some (.slice x1za2 x1zn2 x1zc2) := by rw [← hW7]; exact HBx1'
  clear HBx1'
  have HBx1z : w6.heap.size < w7.heap.size := by rw [← hW7]; simp
  rw [hW7]
  clear hW7
  have HBa0_7 := HBa0 w7 mC
  have HBa0s7 : W.heap.size < w7.heap.size := by have := More.size (show More ((W.alloc (.cells #[.int .i64 e.1.1, .int .i64 e.1.2, .int .i64 e.2.1.1, .int .i64 e.2.1.2, .int .i64 e.2.2.1, .bool e.2.2.2] 63)).alloc (.cells #[.bool x.1.1, .slice s1a1 s1n1 s1c1, .slice s1a2 s1n2 s1c2] 44)) w7 from mC); simp at this; omega
  try clear HBa0_6
  try clear HBa0s6
  have HBa1_7 := HBa1 w7 mC
  have HBa1s7 : W.heap.size + 1 < w7.heap.size := by have := More.size (show More ((W.alloc (.cells #[.int .i64 e.1.1, .int .i64 e.1.2, .int .i64 e.2.1.1, .int .i64 e.2.1.2, .int .i64 e.2.2.1, .bool e.2.2.2] 63)).alloc (.cells #[.bool x.1.1, .slice s1a1 s1n1 s1c1, .slice s1a2 s1n2 s1c2] 44)) w7 from mC); simp at this; omega
  try clear HBa1_6
  try clear HBa1s6
  have HBy_7 := HBy w7 mC
  have HBys7 : nby < w7.heap.size := by have := More.size (show More w5 w7 from mC); have := HByz; omega
  try clear HBy_6
  try clear HBys6
  have HBx1_7 := HBx1 w7 (More.refl _)
  have HBx1s7 := HBx1z
  have RHBa0 := fun (w' : World) (h : More w7 w') => HBa0 w' (More.trans (show More (((W.alloc (.cells #[.int .i64 e.1.1, .int .i64 e.1.2, .int .i64 e.2.1.1, .int .i64 e.2.1.2, .int .i64 e.2.2.1, .bool e.2.2.2] 63)).alloc (.cells #[.bool x.1.1, .slice s1a1 s1n1 s1c1, .slice s1a2 s1n2 s1c2] 44))) w7 from mC) h)
  clear HBa0_7
  have RHBa1 := fun (w' : World) (h : More w7 w') => HBa1 w' (More.trans (show More (((W.alloc (.cells #[.int .i64 e.1.1, .int .i64 e.1.2, .int .i64 e.2.1.1, .int .i64 e.2.1.2, .int .i64 e.2.2.1, .bool e.2.2.2] 63)).alloc (.cells #[.bool x.1.1, .slice s1a1 s1n1 s1c1, .slice s1a2 s1n2 s1c2] 44))) w7 from mC) h)
  clear HBa1_7
  have RHBy := fun (w' : World) (h : More w7 w') => HBy w' (More.trans (show More (w5) w7 from mC) h)
  clear HBy_7
  have RHBx1 := fun (w' : World) (h : More w7 w') => HBx1 w' (More.trans (show More (w7) w7 from mC) h)
  clear HBx1_7
  go_cut [8] (fun sl wx => ∃ (nb : Nat) (gra1 : Option Addr) (grn1 : Nat) (grc1 : Nat) (gra2 : Option Addr) (grn2 : Nat) (grc2 : Nat), sl = .pointer (some ⟨nb, 0, none⟩) ∧ More w7 wx ∧ w7.heap.size ≤ nb ∧ Box3 wx nb (.bool r.1.1) (.slice gra1 grn1 grc1) (.slice gra2 grn2 grc2) ∧ Hid (∃ bs, tRat.own bs wx [.bool r.1.1, .slice gra1 grn1 grc1, .slice gra2 grn2 grc2] r ∧ bs.Nodup ∧ (∀ b ∈ bs, w7.heap.size ≤ b) ∧ nb ∉ bs))
  case first =>
    go_region_held3 (fun w' => More w7 w') (first | exact More.refl _ | exact mC2) (first | (go_at_call 39; (with_reducible refine (laws_toEdge _ e _ (Ty.at_more HV0.out mC)).mono ?_); rintro e w8 ⟨rfl, b8⟩; (have z8 : w7.heap.size ≤ w8.heap.size := by have := b8.size; (try simp at this); omega); (try (have N0 : Box3 w8 (w7.heap.size) (.bool false) (.slice none 0 0) (.slice none 0 0) := Box3.newD (by simp) b8)); (try (have n0c0 := N0.c0; have n0c1 := N0.c1; have n0fr := N0.fr; have n0c2 := N0.c2))) | (go_at_call 22; (with_reducible refine (impl_HeightAtL e _ x _ (edge_in HV0.out).1 (edge_in HV0.out).2 (Ty.at_more (Ty.rd_at (tRat.own_rd X1)) mC) Hs1.out).mono ?_); rintro e w9 ⟨q9, rfl, b9, F9⟩; rw [← ER.out] at F9; obtain ⟨gra1, grn1, grc1, gra2, grn2, grc2, rfl⟩ := sh_Rat (Ty.fresh_at F9); have F9h := Lib.hid F9; clear F9; (have z9 : w7.heap.size ≤ w9.heap.size := by have := b9.size; (try simp at this); omega); (try (have N0 : Box3 w9 (w7.heap.size) (.bool false) (.slice none 0 0) (.slice none 0 0) := Box3.keep N0 b9)); (try (have n0c0 := N0.c0; have n0c1 := N0.c1; have n0fr := N0.fr; have n0c2 := N0.c2)); (try (have N1 : Box3 w9 (w8.heap.size) (.bool false) (.slice none 0 0) (.slice none 0 0) := Box3.new (by simp) b9)); (try (have n1c0 := N1.c0; have n1c1 := N1.c1; have n1fr := N1.fr; have n1c2 := N1.c2))))
    all_goals
      go_wp2_with fail
      go_meet
      first | exact ⟨w9.heap.size, _, _, _, _, _, _, rfl, mC, More.size (show More w7 w9 from mC), Box3.new rfl (More.refl _), Lib.hid (fresh_after F9h.out (by have s8 := b8.size; (try simp at s8); have s9 := b9.size; (try simp at s9); (try simp) <;> omega) _)⟩ | exact ⟨w7.heap.size, _, _, _, _, _, _, rfl, Box3.more (show More w7 w9 from mC) (by have s8 := b8.size; (try simp at s8); have s9 := b9.size; (try simp at s9); omega), (by have s8 := b8.size; (try simp at s8); have s9 := b9.size; (try simp at s9); omega), Box3.set N0, Lib.hid (fresh_before F9h.out (by have s8 := b8.size; (try simp at s8); have s9 := b9.size; (try simp at s9); (try simp) <;> omega) (by have s8 := b8.size; (try simp at s8); have s9 := b9.size; (try simp at s9); (try simp) <;> omega) ((((Turns.refl _ _).setCell (.inl (by simp)) _).setCell (.inl (by simp)) _).setCell (.inl (by simp)) _))⟩ | exact ⟨w8.heap.size, _, _, _, _, _, _, rfl, Box3.more (show More w7 w9 from mC) (by have s8 := b8.size; (try simp at s8); have s9 := b9.size; (try simp at s9); omega), (by have s8 := b8.size; (try simp at s8); have s9 := b9.size; (try simp at s9); omega), Box3.set N1, Lib.hid (fresh_before F9h.out (by have s8 := b8.size; (try simp at s8); have s9 := b9.size; (try simp at s9); (try simp) <;> omega) (by have s8 := b8.size; (try simp at s8); have s9 := b9.size; (try simp at s9); (try simp) <;> omega) ((((Turns.refl _ _).setCell (.inl (by simp)) _).setCell (.inl (by simp)) _).setCell (.inl (by simp)) _))⟩
  case rest =>
  rename World => w10
  obtain ⟨nbg, gra1, grn1, grc1, gra2, grn2, grc2, rfl, b10, hng, hBg, hFg⟩ := hcut
  obtain ⟨bg, G, ng, lg, ning⟩ := hFg.out
  clear RHBa0
  clear RHBa1
  clear RHBy
  clear RHBx1
  have HBg : ∀ w', More w10 w' → w'.cell? ⟨nbg, 0, none⟩ = some (.bool r.1.1) ∧ w'.cell? ⟨nbg, 1, none⟩ = some (.slice gra1 grn1 grc1) ∧ w'.cell? ⟨nbg, 2, none⟩ = some (.slice gra2 grn2 grc2) := fun w' h => ⟨(hBg.keep h).c0, (hBg.keep h).c1, (hBg.keep h).c2⟩
  have HBgz := hBg.lt
  have HBa0_10 := HBa0 w10 mC
  have HBa0s10 : W.heap.size < w10.heap.size := by have := More.size (show More ((W.alloc (.cells #[.int .i64 e.1.1, .int .i64 e.1.2, .int .i64 e.2.1.1, .int .i64 e.2.1.2, .int .i64 e.2.2.1, .bool e.2.2.2] 63)).alloc (.cells #[.bool x.1.1, .slice s1a1 s1n1 s1c1, .slice s1a2 s1n2 s1c2] 44)) w10 from mC); simp at this; omega
  try clear HBa0_9
  try clear HBa0s9
  have HBa1_10 := HBa1 w10 mC
  have HBa1s10 : W.heap.size + 1 < w10.heap.size := by have := More.size (show More ((W.alloc (.cells #[.int .i64 e.1.1, .int .i64 e.1.2, .int .i64 e.2.1.1, .int .i64 e.2.1.2, .int .i64 e.2.2.1, .bool e.2.2.2] 63)).alloc (.cells #[.bool x.1.1, .slice s1a1 s1n1 s1c1, .slice s1a2 s1n2 s1c2] 44)) w10 from mC); simp at this; omega
  try clear HBa1_9
  try clear HBa1s9
  have HBy_10 := HBy w10 mC
  have HBys10 : nby < w10.heap.size := by have := More.size (show More w5 w10 from mC); have := HByz; omega
  try clear HBy_9
  try clear HBys9
  have HBx1_10 := HBx1 w10 mC
  have HBx1s10 : w6.heap.size < w10.heap.size := by have := More.size (show More w7 w10 from mC); have := HBx1z; omega
  try clear HBx1_9
  try clear HBx1s9
  have HBggex1 : w6.heap.size ≤ nbg := Nat.le_trans (More.size (show More w6 w7 from mC)) hng
  have HBg_10 := HBg w10 (More.refl _)
  have HBgs10 := HBgz
  go_wp2_with fail
  have HBa0ltg : ∀ k ∈ bg, W.heap.size < k := fun k hk => Nat.lt_of_lt_of_le (show W.heap.size < (((W.alloc (.cells #[.int .i64 e.1.1, .int .i64 e.1.2, .int .i64 e.2.1.1, .int .i64 e.2.1.2, .int .i64 e.2.2.1, .bool e.2.2.2] 63)).alloc (.cells #[.bool x.1.1, .slice s1a1 s1n1 s1c1, .slice s1a2 s1n2 s1c2] 44))).heap.size from by (simp; try omega)) (Nat.le_trans (More.size (show More (((W.alloc (.cells #[.int .i64 e.1.1, .int .i64 e.1.2, .int .i64 e.2.1.1, .int .i64 e.2.1.2, .int .i64 e.2.2.1, .bool e.2.2.2] 63)).alloc (.cells #[.bool x.1.1, .slice s1a1 s1n1 s1c1, .slice s1a2 s1n2 s1c2] 44))) _ from mC)) (lg k hk))
  have HBa1ltg : ∀ k ∈ bg, W.heap.size + 1 < k := fun k hk => Nat.lt_of_lt_of_le (show W.heap.size + 1 < (((W.alloc (.cells #[.int .i64 e.1.1, .int .i64 e.1.2, .int .i64 e.2.1.1, .int .i64 e.2.1.2, .int .i64 e.2.2.1, .bool e.2.2.2] 63)).alloc (.cells #[.bool x.1.1, .slice s1a1 s1n1 s1c1, .slice s1a2 s1n2 s1c2] 44))).heap.size from by (simp; try omega)) (Nat.le_trans (More.size (show More (((W.alloc (.cells #[.int .i64 e.1.1, .int .i64 e.1.2, .int .i64 e.2.1.1, .int .i64 e.2.1.2, .int .i64 e.2.2.1, .bool e.2.2.2] 63)).alloc (.cells #[.bool x.1.1, .slice s1a1 s1n1 s1c1, .slice s1a2 s1n2 s1c2] 44))) _ from mC)) (lg k hk))
  have HByltg : ∀ k ∈ bg, nby < k := fun k hk => Nat.lt_of_lt_of_le (show nby < (w5).heap.size from by exact HByz) (Nat.le_trans (More.size (show More (w5) _ from mC)) (lg k hk))
  have HBx1ltg : ∀ k ∈ bg, w6.heap.size < k := fun k hk => Nat.lt_of_lt_of_le (show w6.heap.size < (w7).heap.size from by exact HBx1z) (Nat.le_trans (More.size (show More (w7) _ from mC)) (lg k hk))
  have lg_x1 : ∀ k ∈ bg, w6.heap.size ≤ k := fun k hk => Nat.le_trans (More.size (show More w6 _ from mC)) (lg k hk)
  refine (laws_eqRat _ _ r _ (Ty.at_more (Ty.rd_at (tRat.own_rd G)) mC) (Ty.at_more (Ty.fresh_at Fy) mC) HrL.out).mono ?_
  rintro e w11 ⟨rfl, b11⟩
  have HBa0_11 := HBa0 w11 mC
  have HBa0s11 : W.heap.size < w11.heap.size := by have := More.size (show More ((W.alloc (.cells #[.int .i64 e.1.1, .int .i64 e.1.2, .int .i64 e.2.1.1, .int .i64 e.2.1.2, .int .i64 e.2.2.1, .bool e.2.2.2] 63)).alloc (.cells #[.bool x.1.1, .slice s1a1 s1n1 s1c1, .slice s1a2 s1n2 s1c2] 44)) w11 from mC); simp at this; omega
  try clear HBa0_10
  try clear HBa0s10
  have HBa1_11 := HBa1 w11 mC
  have HBa1s11 : W.heap.size + 1 < w11.heap.size := by have := More.size (show More ((W.alloc (.cells #[.int .i64 e.1.1, .int .i64 e.1.2, .int .i64 e.2.1.1, .int .i64 e.2.1.2, .int .i64 e.2.2.1, .bool e.2.2.2] 63)).alloc (.cells #[.bool x.1.1, .slice s1a1 s1n1 s1c1, .slice s1a2 s1n2 s1c2] 44)) w11 from mC); simp at this; omega
  try clear HBa1_10
  try clear HBa1s10
  have HBy_11 := HBy w11 mC
  have HBys11 : nby < w11.heap.size := by have := More.size (show More w5 w11 from mC); have := HByz; omega
  try clear HBy_10
  try clear HBys10
  have HBx1_11 := HBx1 w11 mC
  have HBx1s11 : w6.heap.size < w11.heap.size := by have := More.size (show More w7 w11 from mC); have := HBx1z; omega
  try clear HBx1_10
  try clear HBx1s10
  have HBg_11 := HBg w11 mC
  have HBgs11 : nbg < w11.heap.size := by have := More.size (show More w10 w11 from mC); have := HBgz; omega
  try clear HBg_10
  try clear HBgs10
  go_wp2_with fail
  have RHBa0 := fun (w' : World) (h : More w11 w') => HBa0 w' (More.trans (show More (((W.alloc (.cells #[.int .i64 e.1.1, .int .i64 e.1.2, .int .i64 e.2.1.1, .int .i64 e.2.1.2, .int .i64 e.2.2.1, .bool e.2.2.2] 63)).alloc (.cells #[.bool x.1.1, .slice s1a1 s1n1 s1c1, .slice s1a2 s1n2 s1c2] 44))) w11 from mC) h)
  clear HBa0_11
  have RHBa1 := fun (w' : World) (h : More w11 w') => HBa1 w' (More.trans (show More (((W.alloc (.cells #[.int .i64 e.1.1, .int .i64 e.1.2, .int .i64 e.2.1.1, .int .i64 e.2.1.2, .int .i64 e.2.2.1, .bool e.2.2.2] 63)).alloc (.cells #[.bool x.1.1, .slice s1a1 s1n1 s1c1, .slice s1a2 s1n2 s1c2] 44))) w11 from mC) h)
  clear HBa1_11
  have RHBy := fun (w' : World) (h : More w11 w') => HBy w' (More.trans (show More (w5) w11 from mC) h)
  clear HBy_11
  have RHBx1 := fun (w' : World) (h : More w11 w') => HBx1 w' (More.trans (show More (w7) w11 from mC) h)
  clear HBx1_11
  have RHBg := fun (w' : World) (h : More w11 w') => HBg w' (More.trans (show More (w10) w11 from mC) h)
  clear HBg_11
  go_region_held3 (fun w' => More w11 w') (first | exact More.refl _ | exact mC) (first | (go_at_call 40; (with_reducible refine (laws_toRat _ x _ (Ty.at_more HV1.out mC) Hs1.out).mono ?_); rintro e w12 ⟨t1, rfl, b12, Ft1⟩; obtain ⟨t1za1, t1zn1, t1zc1, t1za2, t1zn2, t1zc2, rfl⟩ := sh_Rat (Ty.fresh_at Ft1)) | (go_at_call 41; (with_reducible refine (laws_eqRat _ _ x _ (Ty.at_more (Ty.rd_at (tRat.own_rd X1)) mC) (Ty.at_more (Ty.fresh_at Ft1) (Turns.more (by ((repeat (first | (with_reducible apply Turns.drew) | (with_reducible apply Turns.drewN) | (with_reducible apply Turns.alloc))); exact Turns.refl _ _)))) Hs1.out).mono ?_); rintro e w13 ⟨rfl, b13⟩))
  clear RHBa0
  clear RHBa1
  clear RHBy
  clear RHBx1
  clear RHBg
  have HBa0_13 := HBa0 w13 mC
  have HBa0s13 : W.heap.size < w13.heap.size := by have := More.size (show More ((W.alloc (.cells #[.int .i64 e.1.1, .int .i64 e.1.2, .int .i64 e.2.1.1, .int .i64 e.2.1.2, .int .i64 e.2.2.1, .bool e.2.2.2] 63)).alloc (.cells #[.bool x.1.1, .slice s1a1 s1n1 s1c1, .slice s1a2 s1n2 s1c2] 44)) w13 from mC); simp at this; omega
  try clear HBa0_12
  try clear HBa0s12
  have HBa1_13 := HBa1 w13 mC
  have HBa1s13 : W.heap.size + 1 < w13.heap.size := by have := More.size (show More ((W.alloc (.cells #[.int .i64 e.1.1, .int .i64 e.1.2, .int .i64 e.2.1.1, .int .i64 e.2.1.2, .int .i64 e.2.2.1, .bool e.2.2.2] 63)).alloc (.cells #[.bool x.1.1, .slice s1a1 s1n1 s1c1, .slice s1a2 s1n2 s1c2] 44)) w13 from mC); simp at this; omega
  try clear HBa1_12
  try clear HBa1s12
  have HBy_13 := HBy w13 mC
  have HBys13 : nby < w13.heap.size := by have := More.size (show More w5 w13 from mC); have := HByz; omega
  try clear HBy_12
  try clear HBys12
  have HBx1_13 := HBx1 w13 mC
  have HBx1s13 : w6.heap.size < w13.heap.size := by have := More.size (show More w7 w13 from mC); have := HBx1z; omega
  try clear HBx1_12
  try clear HBx1s12
  have HBg_13 := HBg w13 mC
  have HBgs13 : nbg < w13.heap.size := by have := More.size (show More w10 w13 from mC); have := HBgz; omega
  try clear HBg_12
  try clear HBgs12
  go_wp2_with fail
  refine (laws_markRat_ bx1 _ x _ _ (Ty.own_more X1 mC) nx1 (by omega) (by have h19 := HC1.out; have := HC1.out; omega) Hs1.out).mono ?_
  rintro e w14 ⟨rfl, T14, M14⟩
  have go14 := Ty.own_turns (Ty.own_more G mC) T14 (fun k hk hk' => by have h1 := lg_x1 k hk; have h2 := tRat.own_lt X1 k hk'; omega)
  have HBa0z' : W.heap.size < w14.heap.size := Nat.lt_of_lt_of_le (Nat.lt_of_lt_of_le (show W.heap.size < (((W.alloc (.cells #[.int .i64 e.1.1, .int .i64 e.1.2, .int .i64 e.2.1.1, .int .i64 e.2.1.2, .int .i64 e.2.2.1, .bool e.2.2.2] 63)).alloc (.cells #[.bool x.1.1, .slice s1a1 s1n1 s1c1, .slice s1a2 s1n2 s1c2] 44))).heap.size from by (simp; try omega)) (More.size (show More (((W.alloc (.cells #[.int .i64 e.1.1, .int .i64 e.1.2, .int .i64 e.2.1.1, .int .i64 e.2.1.2, .int .i64 e.2.2.1, .bool e.2.2.2] 63)).alloc (.cells #[.bool x.1.1, .slice s1a1 s1n1 s1c1, .slice s1a2 s1n2 s1c2] 44))) _ from mC))) T14.size
  have HBa0k : w14.cell? ⟨W.heap.size, 0, none⟩ = some (.int .i64 e.1.1) ∧ w14.cell? ⟨W.heap.size, 1, none⟩ = some (.int .i64 e.1.2) ∧ w14.cell? ⟨W.heap.size, 2, none⟩ = some (.int .i64 e.2.1.1) ∧ w14.cell? ⟨W.heap.size, 3, none⟩ = some (.int .i64 e.2.1.2) ∧ w14.cell? ⟨W.heap.size, 4, none⟩ = some (.int .i64 e.2.2.1) ∧ w14.cell? ⟨W.heap.size, 5, none⟩ = some (.bool e.2.2.2) := ⟨turn_cell T14 (Nat.lt_of_lt_of_le (show W.heap.size < (((W.alloc (.cells #[.int .i64 e.1.1, .int .i64 e.1.2, .int .i64 e.2.1.1, .int .i64 e.2.1.2, .int .i64 e.2.2.1, .bool e.2.2.2] 63)).alloc (.cells #[.bool x.1.1, .slice s1a1 s1n1 s1c1, .slice s1a2 s1n2 s1c2] 44))).heap.size from by (simp; try omega)) (More.size (show More (((W.alloc (.cells #[.int .i64 e.1.1, .int .i64 e.1.2, .int .i64 e.2.1.1, .int .i64 e.2.1.2, .int .i64 e.2.2.1, .bool e.2.2.2] 63)).alloc (.cells #[.bool x.1.1, .slice s1a1 s1n1 s1c1, .slice s1a2 s1n2 s1c2] 44))) _ from mC))) (fun h => by have h1 := HBa0ltx1 _ h; omega) (HBa0 _ mC).1, turn_cell T14 (Nat.lt_of_lt_of_le (show W.heap.size < (((W.alloc (.cells #[.int .i64 e.1.1, .int .i64 e.1.2, .int .i64 e.2.1.1, .int .i64 e.2.1.2, .int .i64 e.2.2.1, .bool e.2.2.2] 63)).alloc (.cells #[.bool x.1.1, .slice s1a1 s1n1 s1c1, .slice s1a2 s1n2 s1c2] 44))).heap.size from by (simp; try omega)) (More.size (show More (((W.alloc (.cells #[.int .i64 e.1.1, .int .i64 e.1.2, .int .i64 e.2.1.1, .int .i64 e.2.1.2, .int .i64 e.2.2.1, .bool e.2.2.2] 63)).alloc (.cells #[.bool x.1.1, .slice s1a1 s1n1 s1c1, .slice s1a2 s1n2 s1c2] 44))) _ from mC))) (fun h => by have h1 := HBa0ltx1 _ h; omega) (HBa0 _ mC).2.1, turn_cell T14 (Nat.lt_of_lt_of_le (show W.heap.size < (((W.alloc (.cells #[.int .i64 e.1.1, .int .i64 e.1.2, .int .i64 e.2.1.1, .int .i64 e.2.1.2, .int .i64 e.2.2.1, .bool e.2.2.2] 63)).alloc (.cells #[.bool x.1.1, .slice s1a1 s1n1 s1c1, .slice s1a2 s1n2 s1c2] 44))).heap.size from by (simp; try omega)) (More.size (show More (((W.alloc (.cells #[.int .i64 e.1.1, .int .i64 e.1.2, .int .i64 e.2.1.1, .int .i64 e.2.1.2, .int .i64 e.2.2.1, .bool e.2.2.2] 63)).alloc (.cells #[.bool x.1.1, .slice s1a1 s1n1 s1c1, .slice s1a2 s1n2 s1c2] 44))) _ from mC))) (fun h => by have h1 := HBa0ltx1 _ h; omega) (HBa0 _ mC).2.2.1, turn_cell T14 (Nat.lt_of_lt_of_le (show W.heap.size < (((W.alloc (.cells #[.int .i64 e.1.1, .int .i64 e.1.2, .int .i64 e.2.1.1, .int .i64 e.2.1.2, .int .i64 e.2.2.1, .bool e.2.2.2] 63)).alloc (.cells #[.bool x.1.1, .slice s1a1 s1n1 s1c1, .slice s1a2 s1n2 s1c2] 44))).heap.size from by (simp; try omega)) (More.size (show More (((W.alloc (.cells #[.int .i64 e.1.1, .int .i64 e.1.2, .int .i64 e.2.1.1, .int .i64 e.2.1.2, .int .i64 e.2.2.1, .bool e.2.2.2] 63)).alloc (.cells #[.bool x.1.1, .slice s1a1 s1n1 s1c1, .slice s1a2 s1n2 s1c2] 44))) _ from mC))) (fun h => by have h1 := HBa0ltx1 _ h; omega) (HBa0 _ mC).2.2.2.1, turn_cell T14 (Nat.lt_of_lt_of_le (show W.heap.size < (((W.alloc (.cells #[.int .i64 e.1.1, .int .i64 e.1.2, .int .i64 e.2.1.1, .int .i64 e.2.1.2, .int .i64 e.2.2.1, .bool e.2.2.2] 63)).alloc (.cells #[.bool x.1.1, .slice s1a1 s1n1 s1c1, .slice s1a2 s1n2 s1c2] 44))).heap.size from by (simp; try omega)) (More.size (show More (((W.alloc (.cells #[.int .i64 e.1.1, .int .i64 e.1.2, .int .i64 e.2.1.1, .int .i64 e.2.1.2, .int .i64 e.2.2.1, .bool e.2.2.2] 63)).alloc (.cells #[.bool x.1.1, .slice s1a1 s1n1 s1c1, .slice s1a2 s1n2 s1c2] 44))) _ from mC))) (fun h => by have h1 := HBa0ltx1 _ h; omega) (HBa0 _ mC).2.2.2.2.1, turn_cell T14 (Nat.lt_of_lt_of_le (show W.heap.size < (((W.alloc (.cells #[.int .i64 e.1.1, .int .i64 e.1.2, .int .i64 e.2.1.1, .int .i64 e.2.1.2, .int .i64 e.2.2.1, .bool e.2.2.2] 63)).alloc (.cells #[.bool x.1.1, .slice s1a1 s1n1 s1c1, .slice s1a2 s1n2 s1c2] 44))).heap.size from by (simp; try omega)) (More.size (show More (((W.alloc (.cells #[.int .i64 e.1.1, .int .i64 e.1.2, .int .i64 e.2.1.1, .int .i64 e.2.1.2, .int .i64 e.2.2.1, .bool e.2.2.2] 63)).alloc (.cells #[.bool x.1.1, .slice s1a1 s1n1 s1c1, .slice s1a2 s1n2 s1c2] 44))) _ from mC))) (fun h => by have h1 := HBa0ltx1 _ h; omega) (HBa0 _ mC).2.2.2.2.2⟩
  have HBa1z' : W.heap.size + 1 < w14.heap.size := Nat.lt_of_lt_of_le (Nat.lt_of_lt_of_le (show W.heap.size + 1 < (((W.alloc (.cells #[.int .i64 e.1.1, .int .i64 e.1.2, .int .i64 e.2.1.1, .int .i64 e.2.1.2, .int .i64 e.2.2.1, .bool e.2.2.2] 63)).alloc (.cells #[.bool x.1.1, .slice s1a1 s1n1 s1c1, .slice s1a2 s1n2 s1c2] 44))).heap.size from by (simp; try omega)) (More.size (show More (((W.alloc (.cells #[.int .i64 e.1.1, .int .i64 e.1.2, .int .i64 e.2.1.1, .int .i64 e.2.1.2, .int .i64 e.2.2.1, .bool e.2.2.2] 63)).alloc (.cells #[.bool x.1.1, .slice s1a1 s1n1 s1c1, .slice s1a2 s1n2 s1c2] 44))) _ from mC))) T14.size
  have HBa1k : w14.cell? ⟨W.heap.size + 1, 0, none⟩ = some (.bool x.1.1) ∧ w14.cell? ⟨W.heap.size + 1, 1, none⟩ = some (.slice s1a1 s1n1 s1c1) ∧ w14.cell? ⟨W.heap.size + 1, 2, none⟩ = some (.slice s1a2 s1n2 s1c2) := ⟨turn_cell T14 (Nat.lt_of_lt_of_le (show W.heap.size + 1 < (((W.alloc (.cells #[.int .i64 e.1.1, .int .i64 e.1.2, .int .i64 e.2.1.1, .int .i64 e.2.1.2, .int .i64 e.2.2.1, .bool e.2.2.2] 63)).alloc (.cells #[.bool x.1.1, .slice s1a1 s1n1 s1c1, .slice s1a2 s1n2 s1c2] 44))).heap.size from by (simp; try omega)) (More.size (show More (((W.alloc (.cells #[.int .i64 e.1.1, .int .i64 e.1.2, .int .i64 e.2.1.1, .int .i64 e.2.1.2, .int .i64 e.2.2.1, .bool e.2.2.2] 63)).alloc (.cells #[.bool x.1.1, .slice s1a1 s1n1 s1c1, .slice s1a2 s1n2 s1c2] 44))) _ from mC))) (fun h => by have h1 := HBa1ltx1 _ h; omega) (HBa1 _ mC).1, turn_cell T14 (Nat.lt_of_lt_of_le (show W.heap.size + 1 < (((W.alloc (.cells #[.int .i64 e.1.1, .int .i64 e.1.2, .int .i64 e.2.1.1, .int .i64 e.2.1.2, .int .i64 e.2.2.1, .bool e.2.2.2] 63)).alloc (.cells #[.bool x.1.1, .slice s1a1 s1n1 s1c1, .slice s1a2 s1n2 s1c2] 44))).heap.size from by (simp; try omega)) (More.size (show More (((W.alloc (.cells #[.int .i64 e.1.1, .int .i64 e.1.2, .int .i64 e.2.1.1, .int .i64 e.2.1.2, .int .i64 e.2.2.1, .bool e.2.2.2] 63)).alloc (.cells #[.bool x.1.1, .slice s1a1 s1n1 s1c1, .slice s1a2 s1n2 s1c2] 44))) _ from mC))) (fun h => by have h1 := HBa1ltx1 _ h; omega) (HBa1 _ mC).2.1, turn_cell T14 (Nat.lt_of_lt_of_le (show W.heap.size + 1 < (((W.alloc (.cells #[.int .i64 e.1.1, .int .i64 e.1.2, .int .i64 e.2.1.1, .int .i64 e.2.1.2, .int .i64 e.2.2.1, .bool e.2.2.2] 63)).alloc (.cells #[.bool x.1.1, .slice s1a1 s1n1 s1c1, .slice s1a2 s1n2 s1c2] 44))).heap.size from by (simp; try omega)) (More.size (show More (((W.alloc (.cells #[.int .i64 e.1.1, .int .i64 e.1.2, .int .i64 e.2.1.1, .int .i64 e.2.1.2, .int .i64 e.2.2.1, .bool e.2.2.2] 63)).alloc (.cells #[.bool x.1.1, .slice s1a1 s1n1 s1c1, .slice s1a2 s1n2 s1c2] 44))) _ from mC))) (fun h => by have h1 := HBa1ltx1 _ h; omega) (HBa1 _ mC).2.2⟩
  have HByz' : nby < w14.heap.size := Nat.lt_of_lt_of_le (Nat.lt_of_lt_of_le (show nby < (w5).heap.size from by exact HByz) (More.size (show More (w5) _ from mC))) T14.size
  have HByk : w14.cell? ⟨nby, 0, none⟩ = some (.bool r.1.1) ∧ w14.cell? ⟨nby, 1, none⟩ = some (.slice yra1 yrn1 yrc1) ∧ w14.cell? ⟨nby, 2, none⟩ = some (.slice yra2 yrn2 yrc2) := ⟨turn_cell T14 (Nat.lt_of_lt_of_le (show nby < (w5).heap.size from by exact HByz) (More.size (show More (w5) _ from mC))) (fun h => by have h1 := HByltx1 _ h; omega) (HBy _ mC).1, turn_cell T14 (Nat.lt_of_lt_of_le (show nby < (w5).heap.size from by exact HByz) (More.size (show More (w5) _ from mC))) (fun h => by have h1 := HByltx1 _ h; omega) (HBy _ mC).2.1, turn_cell T14 (Nat.lt_of_lt_of_le (show nby < (w5).heap.size from by exact HByz) (More.size (show More (w5) _ from mC))) (fun h => by have h1 := HByltx1 _ h; omega) (HBy _ mC).2.2⟩
  have HBx1z' : w6.heap.size < w14.heap.size := Nat.lt_of_lt_of_le (Nat.lt_of_lt_of_le (show w6.heap.size < (w7).heap.size from by exact HBx1z) (More.size (show More (w7) _ from mC))) T14.size
  have HBx1k : w14.cell? ⟨w6.heap.size, 0, none⟩ = some (.bool x.1.1) ∧ w14.cell? ⟨w6.heap.size, 1, none⟩ = some (.slice x1za1 x1zn1 x1zc1) ∧ w14.cell? ⟨w6.heap.size, 2, none⟩ = some (.slice x1za2 x1zn2 x1zc2) := ⟨turn_cell T14 (Nat.lt_of_lt_of_le (show w6.heap.size < (w7).heap.size from by exact HBx1z) (More.size (show More (w7) _ from mC))) (fun h => by have h1 := HBx1gex1; have h2 := tRat.own_lt X1 _ h; omega) (HBx1 _ mC).1, turn_cell T14 (Nat.lt_of_lt_of_le (show w6.heap.size < (w7).heap.size from by exact HBx1z) (More.size (show More (w7) _ from mC))) (fun h => by have h1 := HBx1gex1; have h2 := tRat.own_lt X1 _ h; omega) (HBx1 _ mC).2.1, turn_cell T14 (Nat.lt_of_lt_of_le (show w6.heap.size < (w7).heap.size from by exact HBx1z) (More.size (show More (w7) _ from mC))) (fun h => by have h1 := HBx1gex1; have h2 := tRat.own_lt X1 _ h; omega) (HBx1 _ mC).2.2⟩
  have HBgz' : nbg < w14.heap.size := Nat.lt_of_lt_of_le (Nat.lt_of_lt_of_le (show nbg < (w10).heap.size from by exact HBgz) (More.size (show More (w10) _ from mC))) T14.size
  have HBgk : w14.cell? ⟨nbg, 0, none⟩ = some (.bool r.1.1) ∧ w14.cell? ⟨nbg, 1, none⟩ = some (.slice gra1 grn1 grc1) ∧ w14.cell? ⟨nbg, 2, none⟩ = some (.slice gra2 grn2 grc2) := ⟨turn_cell T14 (Nat.lt_of_lt_of_le (show nbg < (w10).heap.size from by exact HBgz) (More.size (show More (w10) _ from mC))) (fun h => by have h1 := HBggex1; have h2 := tRat.own_lt X1 _ h; omega) (HBg _ mC).1, turn_cell T14 (Nat.lt_of_lt_of_le (show nbg < (w10).heap.size from by exact HBgz) (More.size (show More (w10) _ from mC))) (fun h => by have h1 := HBggex1; have h2 := tRat.own_lt X1 _ h; omega) (HBg _ mC).2.1, turn_cell T14 (Nat.lt_of_lt_of_le (show nbg < (w10).heap.size from by exact HBgz) (More.size (show More (w10) _ from mC))) (fun h => by have h1 := HBggex1; have h2 := tRat.own_lt X1 _ h; omega) (HBg _ mC).2.2⟩
  have b14 := More.turn (b6.trans mC) T14 lx1
  try clear HBa0_13
  try clear HBa0s13
  clear HBa0
  have HBa0 : ∀ w', More w14 w' → w'.cell? ⟨W.heap.size, 0, none⟩ = some (.int .i64 e.1.1) ∧ w'.cell? ⟨W.heap.size, 1, none⟩ = some (.int .i64 e.1.2) ∧ w'.cell? ⟨W.heap.size, 2, none⟩ = some (.int .i64 e.2.1.1) ∧ w'.cell? ⟨W.heap.size, 3, none⟩ = some (.int .i64 e.2.1.2) ∧ w'.cell? ⟨W.heap.size, 4, none⟩ = some (.int .i64 e.2.2.1) ∧ w'.cell? ⟨W.heap.size, 5, none⟩ = some (.bool e.2.2.2) := fun w' h => ⟨box_keep h HBa0z' (HBa0k.1), box_keep h HBa0z' (HBa0k.2.1), box_keep h HBa0z' (HBa0k.2.2.1), box_keep h HBa0z' (HBa0k.2.2.2.1), box_keep h HBa0z' (HBa0k.2.2.2.2.1), box_keep h HBa0z' (HBa0k.2.2.2.2.2)⟩
  try clear HBa0z
  have HBa0z := HBa0z'; clear HBa0z' HBa0k
  have HBa0_14 := HBa0 w14 (More.refl _)
  have HBa0s14 := HBa0z
  try clear HBa1_13
  try clear HBa1s13
  clear HBa1
  have HBa1 : ∀ w', More w14 w' → w'.cell? ⟨W.heap.size + 1, 0, none⟩ = some (.bool x.1.1) ∧ w'.cell? ⟨W.heap.size + 1, 1, none⟩ = some (.slice s1a1 s1n1 s1c1) ∧ w'.cell? ⟨W.heap.size + 1, 2, none⟩ = some (.slice s1a2 s1n2 s1c2) := fun w' h => ⟨box_keep h HBa1z' (HBa1k.1), box_keep h HBa1z' (HBa1k.2.1), box_keep h HBa1z' (HBa1k.2.2)⟩
  try clear HBa1z
  have HBa1z := HBa1z'; clear HBa1z' HBa1k
  have HBa1_14 := HBa1 w14 (More.refl _)
  have HBa1s14 := HBa1z
  try clear HBy_13
  try clear HBys13
  clear HBy
  have HBy : ∀ w', More w14 w' → w'.cell? ⟨nby, 0, none⟩ = some (.bool r.1.1) ∧ w'.cell? ⟨nby, 1, none⟩ = some (.slice yra1 yrn1 yrc1) ∧ w'.cell? ⟨nby, 2, none⟩ = some (.slice yra2 yrn2 yrc2) := fun w' h => ⟨box_keep h HByz' (HByk.1), box_keep h HByz' (HByk.2.1), box_keep h HByz' (HByk.2.2)⟩
  try clear HByz
  have HByz := HByz'; clear HByz' HByk
  have HBy_14 := HBy w14 (More.refl _)
  have HBys14 := HByz
  try clear HBx1_13
  try clear HBx1s13
  clear HBx1
  have HBx1 : ∀ w', More w14 w' → w'.cell? ⟨w6.heap.size, 0, none⟩ = some (.bool x.1.1) ∧ w'.cell? ⟨w6.heap.size, 1, none⟩ = some (.slice x1za1 x1zn1 x1zc1) ∧ w'.cell? ⟨w6.heap.size, 2, none⟩ = some (.slice x1za2 x1zn2 x1zc2) := fun w' h => ⟨box_keep h HBx1z' (HBx1k.1), box_keep h HBx1z' (HBx1k.2.1), box_keep h HBx1z' (HBx1k.2.2)⟩
  try clear HBx1z
  have HBx1z := HBx1z'; clear HBx1z' HBx1k
  have HBx1_14 := HBx1 w14 (More.refl _)
  have HBx1s14 := HBx1z
  try clear HBg_13
  try clear HBgs13
  clear HBg
  have HBg : ∀ w', More w14 w' → w'.cell? ⟨nbg, 0, none⟩ = some (.bool r.1.1) ∧ w'.cell? ⟨nbg, 1, none⟩ = some (.slice gra1 grn1 grc1) ∧ w'.cell? ⟨nbg, 2, none⟩ = some (.slice gra2 grn2 grc2) := fun w' h => ⟨box_keep h HBgz' (HBgk.1), box_keep h HBgz' (HBgk.2.1), box_keep h HBgz' (HBgk.2.2)⟩
  try clear HBgz
  have HBgz := HBgz'; clear HBgz' HBgk
  have HBg_14 := HBg w14 (More.refl _)
  have HBgs14 := HBgz
  have k14 : ¬ (1 + ((cRat x : Nat) : Int) < 0) := by omega
  go_wp2_with fail
  refine (laws_eqRat _ _ r _ (Ty.at_more (Ty.rd_at (tRat.own_rd go14)) mC) (Ty.at_more (Ty.fresh_at Fy) mC) HrL.out).mono ?_
  rintro e w15 ⟨rfl, b15⟩
  have HBa0_15 := HBa0 w15 mC
  have HBa0s15 : W.heap.size < w15.heap.size := by have := More.size (show More w14 w15 from mC); have := HBa0z; omega
  try clear HBa0_14
  try clear HBa0s14
  have HBa1_15 := HBa1 w15 mC
  have HBa1s15 : W.heap.size + 1 < w15.heap.size := by have := More.size (show More w14 w15 from mC); have := HBa1z; omega
  try clear HBa1_14
  try clear HBa1s14
  have HBy_15 := HBy w15 mC
  have HBys15 : nby < w15.heap.size := by have := More.size (show More w14 w15 from mC); have := HByz; omega
  try clear HBy_14
  try clear HBys14
  have HBx1_15 := HBx1 w15 mC
  have HBx1s15 : w6.heap.size < w15.heap.size := by have := More.size (show More w14 w15 from mC); have := HBx1z; omega
  try clear HBx1_14
  try clear HBx1s14
  have HBg_15 := HBg w15 mC
  have HBgs15 : nbg < w15.heap.size := by have := More.size (show More w14 w15 from mC); have := HBgz; omega
  try clear HBg_14
  try clear HBgs14
  go_wp2_with fail
  refine (laws_markRat_ bg _ r _ _ (Ty.own_more go14 mC) ng (by omega) (by have h19 := HC1.out; have := HrC.out; omega) HrL.out).mono ?_
  rintro e w16 ⟨rfl, T16, M16⟩
  have HBa0z' : W.heap.size < w16.heap.size := Nat.lt_of_lt_of_le (Nat.lt_of_lt_of_le (show W.heap.size < (w14).heap.size from by exact HBa0z) (More.size (show More (w14) _ from mC))) T16.size
  have HBa0k : w16.cell? ⟨W.heap.size, 0, none⟩ = some (.int .i64 e.1.1) ∧ w16.cell? ⟨W.heap.size, 1, none⟩ = some (.int .i64 e.1.2) ∧ w16.cell? ⟨W.heap.size, 2, none⟩ = some (.int .i64 e.2.1.1) ∧ w16.cell? ⟨W.heap.size, 3, none⟩ = some (.int .i64 e.2.1.2) ∧ w16.cell? ⟨W.heap.size, 4, none⟩ = some (.int .i64 e.2.2.1) ∧ w16.cell? ⟨W.heap.size, 5, none⟩ = some (.bool e.2.2.2) := ⟨turn_cell T16 (Nat.lt_of_lt_of_le (show W.heap.size < (w14).heap.size from by exact HBa0z) (More.size (show More (w14) _ from mC))) (fun h => by have h1 := HBa0ltg _ h; omega) (HBa0 _ mC).1, turn_cell T16 (Nat.lt_of_lt_of_le (show W.heap.size < (w14).heap.size from by exact HBa0z) (More.size (show More (w14) _ from mC))) (fun h => by have h1 := HBa0ltg _ h; omega) (HBa0 _ mC).2.1, turn_cell T16 (Nat.lt_of_lt_of_le (show W.heap.size < (w14).heap.size from by exact HBa0z) (More.size (show More (w14) _ from mC))) (fun h => by have h1 := HBa0ltg _ h; omega) (HBa0 _ mC).2.2.1, turn_cell T16 (Nat.lt_of_lt_of_le (show W.heap.size < (w14).heap.size from by exact HBa0z) (More.size (show More (w14) _ from mC))) (fun h => by have h1 := HBa0ltg _ h; omega) (HBa0 _ mC).2.2.2.1, turn_cell T16 (Nat.lt_of_lt_of_le (show W.heap.size < (w14).heap.size from by exact HBa0z) (More.size (show More (w14) _ from mC))) (fun h => by have h1 := HBa0ltg _ h; omega) (HBa0 _ mC).2.2.2.2.1, turn_cell T16 (Nat.lt_of_lt_of_le (show W.heap.size < (w14).heap.size from by exact HBa0z) (More.size (show More (w14) _ from mC))) (fun h => by have h1 := HBa0ltg _ h; omega) (HBa0 _ mC).2.2.2.2.2⟩
  have HBa1z' : W.heap.size + 1 < w16.heap.size := Nat.lt_of_lt_of_le (Nat.lt_of_lt_of_le (show W.heap.size + 1 < (w14).heap.size from by exact HBa1z) (More.size (show More (w14) _ from mC))) T16.size
  have HBa1k : w16.cell? ⟨W.heap.size + 1, 0, none⟩ = some (.bool x.1.1) ∧ w16.cell? ⟨W.heap.size + 1, 1, none⟩ = some (.slice s1a1 s1n1 s1c1) ∧ w16.cell? ⟨W.heap.size + 1, 2, none⟩ = some (.slice s1a2 s1n2 s1c2) := ⟨turn_cell T16 (Nat.lt_of_lt_of_le (show W.heap.size + 1 < (w14).heap.size from by exact HBa1z) (More.size (show More (w14) _ from mC))) (fun h => by have h1 := HBa1ltg _ h; omega) (HBa1 _ mC).1, turn_cell T16 (Nat.lt_of_lt_of_le (show W.heap.size + 1 < (w14).heap.size from by exact HBa1z) (More.size (show More (w14) _ from mC))) (fun h => by have h1 := HBa1ltg _ h; omega) (HBa1 _ mC).2.1, turn_cell T16 (Nat.lt_of_lt_of_le (show W.heap.size + 1 < (w14).heap.size from by exact HBa1z) (More.size (show More (w14) _ from mC))) (fun h => by have h1 := HBa1ltg _ h; omega) (HBa1 _ mC).2.2⟩
  have HByz' : nby < w16.heap.size := Nat.lt_of_lt_of_le (Nat.lt_of_lt_of_le (show nby < (w14).heap.size from by exact HByz) (More.size (show More (w14) _ from mC))) T16.size
  have HByk : w16.cell? ⟨nby, 0, none⟩ = some (.bool r.1.1) ∧ w16.cell? ⟨nby, 1, none⟩ = some (.slice yra1 yrn1 yrc1) ∧ w16.cell? ⟨nby, 2, none⟩ = some (.slice yra2 yrn2 yrc2) := ⟨turn_cell T16 (Nat.lt_of_lt_of_le (show nby < (w14).heap.size from by exact HByz) (More.size (show More (w14) _ from mC))) (fun h => by have h1 := HByltg _ h; omega) (HBy _ mC).1, turn_cell T16 (Nat.lt_of_lt_of_le (show nby < (w14).heap.size from by exact HByz) (More.size (show More (w14) _ from mC))) (fun h => by have h1 := HByltg _ h; omega) (HBy _ mC).2.1, turn_cell T16 (Nat.lt_of_lt_of_le (show nby < (w14).heap.size from by exact HByz) (More.size (show More (w14) _ from mC))) (fun h => by have h1 := HByltg _ h; omega) (HBy _ mC).2.2⟩
  have HBx1z' : w6.heap.size < w16.heap.size := Nat.lt_of_lt_of_le (Nat.lt_of_lt_of_le (show w6.heap.size < (w14).heap.size from by exact HBx1z) (More.size (show More (w14) _ from mC))) T16.size
  have HBx1k : w16.cell? ⟨w6.heap.size, 0, none⟩ = some (.bool x.1.1) ∧ w16.cell? ⟨w6.heap.size, 1, none⟩ = some (.slice x1za1 x1zn1 x1zc1) ∧ w16.cell? ⟨w6.heap.size, 2, none⟩ = some (.slice x1za2 x1zn2 x1zc2) := ⟨turn_cell T16 (Nat.lt_of_lt_of_le (show w6.heap.size < (w14).heap.size from by exact HBx1z) (More.size (show More (w14) _ from mC))) (fun h => by have h1 := HBx1ltg _ h; omega) (HBx1 _ mC).1, turn_cell T16 (Nat.lt_of_lt_of_le (show w6.heap.size < (w14).heap.size from by exact HBx1z) (More.size (show More (w14) _ from mC))) (fun h => by have h1 := HBx1ltg _ h; omega) (HBx1 _ mC).2.1, turn_cell T16 (Nat.lt_of_lt_of_le (show w6.heap.size < (w14).heap.size from by exact HBx1z) (More.size (show More (w14) _ from mC))) (fun h => by have h1 := HBx1ltg _ h; omega) (HBx1 _ mC).2.2⟩
  have HBgz' : nbg < w16.heap.size := Nat.lt_of_lt_of_le (Nat.lt_of_lt_of_le (show nbg < (w14).heap.size from by exact HBgz) (More.size (show More (w14) _ from mC))) T16.size
  have HBgk : w16.cell? ⟨nbg, 0, none⟩ = some (.bool r.1.1) ∧ w16.cell? ⟨nbg, 1, none⟩ = some (.slice gra1 grn1 grc1) ∧ w16.cell? ⟨nbg, 2, none⟩ = some (.slice gra2 grn2 grc2) := ⟨turn_cell T16 (Nat.lt_of_lt_of_le (show nbg < (w14).heap.size from by exact HBgz) (More.size (show More (w14) _ from mC))) ning (HBg _ mC).1, turn_cell T16 (Nat.lt_of_lt_of_le (show nbg < (w14).heap.size from by exact HBgz) (More.size (show More (w14) _ from mC))) ning (HBg _ mC).2.1, turn_cell T16 (Nat.lt_of_lt_of_le (show nbg < (w14).heap.size from by exact HBgz) (More.size (show More (w14) _ from mC))) ning (HBg _ mC).2.2⟩
  have b16 := More.turn (b14.trans mC) T16 (fun k hk => Nat.le_trans (More.size (b6.trans mC)) (lg k hk))
  try clear HBa0_15
  try clear HBa0s15
  clear HBa0
  have HBa0 : ∀ w', More w16 w' → w'.cell? ⟨W.heap.size, 0, none⟩ = some (.int .i64 e.1.1) ∧ w'.cell? ⟨W.heap.size, 1, none⟩ = some (.int .i64 e.1.2) ∧ w'.cell? ⟨W.heap.size, 2, none⟩ = some (.int .i64 e.2.1.1) ∧ w'.cell? ⟨W.heap.size, 3, none⟩ = some (.int .i64 e.2.1.2) ∧ w'.cell? ⟨W.heap.size, 4, none⟩ = some (.int .i64 e.2.2.1) ∧ w'.cell? ⟨W.heap.size, 5, none⟩ = some (.bool e.2.2.2) := fun w' h => ⟨box_keep h HBa0z' (HBa0k.1), box_keep h HBa0z' (HBa0k.2.1), box_keep h HBa0z' (HBa0k.2.2.1), box_keep h HBa0z' (HBa0k.2.2.2.1), box_keep h HBa0z' (HBa0k.2.2.2.2.1), box_keep h HBa0z' (HBa0k.2.2.2.2.2)⟩
  try clear HBa0z
  have HBa0z := HBa0z'; clear HBa0z' HBa0k
  have HBa0_16 := HBa0 w16 (More.refl _)
  have HBa0s16 := HBa0z
  try clear HBa1_15
  try clear HBa1s15
  clear HBa1
  have HBa1 : ∀ w', More w16 w' → w'.cell? ⟨W.heap.size + 1, 0, none⟩ = some (.bool x.1.1) ∧ w'.cell? ⟨W.heap.size + 1, 1, none⟩ = some (.slice s1a1 s1n1 s1c1) ∧ w'.cell? ⟨W.heap.size + 1, 2, none⟩ = some (.slice s1a2 s1n2 s1c2) := fun w' h => ⟨box_keep h HBa1z' (HBa1k.1), box_keep h HBa1z' (HBa1k.2.1), box_keep h HBa1z' (HBa1k.2.2)⟩
  try clear HBa1z
  have HBa1z := HBa1z'; clear HBa1z' HBa1k
  have HBa1_16 := HBa1 w16 (More.refl _)
  have HBa1s16 := HBa1z
  try clear HBy_15
  try clear HBys15
  clear HBy
  have HBy : ∀ w', More w16 w' → w'.cell? ⟨nby, 0, none⟩ = some (.bool r.1.1) ∧ w'.cell? ⟨nby, 1, none⟩ = some (.slice yra1 yrn1 yrc1) ∧ w'.cell? ⟨nby, 2, none⟩ = some (.slice yra2 yrn2 yrc2) := fun w' h => ⟨box_keep h HByz' (HByk.1), box_keep h HByz' (HByk.2.1), box_keep h HByz' (HByk.2.2)⟩
  try clear HByz
  have HByz := HByz'; clear HByz' HByk
  have HBy_16 := HBy w16 (More.refl _)
  have HBys16 := HByz
  try clear HBx1_15
  try clear HBx1s15
  clear HBx1
  have HBx1 : ∀ w', More w16 w' → w'.cell? ⟨w6.heap.size, 0, none⟩ = some (.bool x.1.1) ∧ w'.cell? ⟨w6.heap.size, 1, none⟩ = some (.slice x1za1 x1zn1 x1zc1) ∧ w'.cell? ⟨w6.heap.size, 2, none⟩ = some (.slice x1za2 x1zn2 x1zc2) := fun w' h => ⟨box_keep h HBx1z' (HBx1k.1), box_keep h HBx1z' (HBx1k.2.1), box_keep h HBx1z' (HBx1k.2.2)⟩
  try clear HBx1z
  have HBx1z := HBx1z'; clear HBx1z' HBx1k
  have HBx1_16 := HBx1 w16 (More.refl _)
  have HBx1s16 := HBx1z
  try clear HBg_15
  try clear HBgs15
  clear HBg
  have HBg : ∀ w', More w16 w' → w'.cell? ⟨nbg, 0, none⟩ = some (.bool r.1.1) ∧ w'.cell? ⟨nbg, 1, none⟩ = some (.slice gra1 grn1 grc1) ∧ w'.cell? ⟨nbg, 2, none⟩ = some (.slice gra2 grn2 grc2) := fun w' h => ⟨box_keep h HBgz' (HBgk.1), box_keep h HBgz' (HBgk.2.1), box_keep h HBgz' (HBgk.2.2)⟩
  try clear HBgz
  have HBgz := HBgz'; clear HBgz' HBgk
  have HBg_16 := HBg w16 (More.refl _)
  have HBgs16 := HBgz
  go_wp2_with fail
  refine (laws_heldRat_ _ r _ _ (Ty.at_more (Ty.rd_at (tRat.own_rd M16)) mC) (by decide) (by have := HrC.out; omega) HrL.out).mono ?_
  rintro e w17 ⟨rfl, b17⟩
  have HBa0_17 := HBa0 w17 mC
  have HBa0s17 : W.heap.size < w17.heap.size := by have := More.size (show More w16 w17 from mC); have := HBa0z; omega
  try clear HBa0_16
  try clear HBa0s16
  have HBa1_17 := HBa1 w17 mC
  have HBa1s17 : W.heap.size + 1 < w17.heap.size := by have := More.size (show More w16 w17 from mC); have := HBa1z; omega
  try clear HBa1_16
  try clear HBa1s16
  have HBy_17 := HBy w17 mC
  have HBys17 : nby < w17.heap.size := by have := More.size (show More w16 w17 from mC); have := HByz; omega
  try clear HBy_16
  try clear HBys16
  have HBx1_17 := HBx1 w17 mC
  have HBx1s17 : w6.heap.size < w17.heap.size := by have := More.size (show More w16 w17 from mC); have := HBx1z; omega
  try clear HBx1_16
  try clear HBx1s16
  have HBg_17 := HBg w17 mC
  have HBgs17 : nbg < w17.heap.size := by have := More.size (show More w16 w17 from mC); have := HBgz; omega
  try clear HBg_16
  try clear HBgs16
  have q17 : ¬ ((1 : Int) + ((cRat r : Nat) : Int) < 0) := by omega
  go_wp2_with fail
  have RHBa0 := fun (w' : World) (h : More w17 w') => HBa0 w' (More.trans (show More (w16) w17 from mC) h)
  clear HBa0_17
  have RHBa1 := fun (w' : World) (h : More w17 w') => HBa1 w' (More.trans (show More (w16) w17 from mC) h)
  clear HBa1_17
  have RHBy := fun (w' : World) (h : More w17 w') => HBy w' (More.trans (show More (w16) w17 from mC) h)
  clear HBy_17
  have RHBx1 := fun (w' : World) (h : More w17 w') => HBx1 w' (More.trans (show More (w16) w17 from mC) h)
  clear HBx1_17
  have RHBg := fun (w' : World) (h : More w17 w') => HBg w' (More.trans (show More (w16) w17 from mC) h)
  clear HBg_17
  go_cut [12] (fun sl wx => ∃ (nb : Nat) (hra1 : Option Addr) (hrn1 : Nat) (hrc1 : Nat) (hra2 : Option Addr) (hrn2 : Nat) (hrc2 : Nat), sl = .pointer (some ⟨nb, 0, none⟩) ∧ More w17 wx ∧ w17.heap.size ≤ nb ∧ Box3 wx nb (.bool r.1.1) (.slice hra1 hrn1 hrc1) (.slice hra2 hrn2 hrc2) ∧ Hid (∃ bs, tRat.own bs wx [.bool r.1.1, .slice hra1 hrn1 hrc1, .slice hra2 hrn2 hrc2] r ∧ bs.Nodup ∧ (∀ b ∈ bs, w17.heap.size ≤ b) ∧ nb ∉ bs))
  case first =>
    go_region_held3 (fun w' => More w17 w') (first | exact More.refl _ | exact mC2) (first | (go_at_call 39; (with_reducible refine (laws_toEdge _ e _ (Ty.at_more HV0.out mC)).mono ?_); rintro e w18 ⟨rfl, b18⟩; (have z18 : w17.heap.size ≤ w18.heap.size := by have := b18.size; (try simp at this); omega); (try (have N0 : Box3 w18 (w17.heap.size) (.bool false) (.slice none 0 0) (.slice none 0 0) := Box3.newD (by simp) b18)); (try (have n0c0 := N0.c0; have n0c1 := N0.c1; have n0fr := N0.fr; have n0c2 := N0.c2))) | (go_at_call 40; (with_reducible refine (laws_toRat _ x _ (Ty.at_more HV1.out mC) Hs1.out).mono ?_); rintro e w19 ⟨z1, rfl, b19, Fz1⟩; obtain ⟨z1za1, z1zn1, z1zc1, z1za2, z1zn2, z1zc2, rfl⟩ := sh_Rat (Ty.fresh_at Fz1); (have z19 : w17.heap.size ≤ w19.heap.size := by have := b19.size; (try simp at this); omega); (try (have N0 : Box3 w19 (w17.heap.size) (.bool false) (.slice none 0 0) (.slice none 0 0) := Box3.keep N0 b19)); (try (have n0c0 := N0.c0; have n0c1 := N0.c1; have n0fr := N0.fr; have n0c2 := N0.c2)); (try (have N1 : Box3 w19 (w18.heap.size) (.bool false) (.slice none 0 0) (.slice none 0 0) := Box3.new (by simp) b19)); (try (have n1c0 := N1.c0; have n1c1 := N1.c1; have n1fr := N1.fr; have n1c2 := N1.c2))) | (go_at_call 22; (with_reducible refine (impl_HeightAtL e _ x _ (edge_in HV0.out).1 (edge_in HV0.out).2 (Ty.at_more (Ty.fresh_at Fz1) (Turns.more (by ((repeat (first | (with_reducible apply Turns.drew) | (with_reducible apply Turns.drewN) | (with_reducible apply Turns.alloc))); exact Turns.refl _ _)))) Hs1.out).mono ?_); rintro e w20 ⟨q9, rfl, b20, F9⟩; rw [← ER.out] at F9; obtain ⟨hra1, hrn1, hrc1, hra2, hrn2, hrc2, rfl⟩ := sh_Rat (Ty.fresh_at F9); have F9h := Lib.hid F9; clear F9; (have z20 : w17.heap.size ≤ w20.heap.size := by have := b20.size; (try simp at this); omega); (try (have N0 : Box3 w20 (w17.heap.size) (.bool false) (.slice none 0 0) (.slice none 0 0) := Box3.keep N0 b20)); (try (have n0c0 := N0.c0; have n0c1 := N0.c1; have n0fr := N0.fr; have n0c2 := N0.c2)); (try (have N1 : Box3 w20 (w18.heap.size) (.bool false) (.slice none 0 0) (.slice none 0 0) := Box3.keep N1 b20)); (try (have n1c0 := N1.c0; have n1c1 := N1.c1; have n1fr := N1.fr; have n1c2 := N1.c2)); (try (have N2 : Box3 w20 (w19.heap.size) (.bool false) (.slice none 0 0) (.slice none 0 0) := Box3.new (by simp) b20)); (try (have n2c0 := N2.c0; have n2c1 := N2.c1; have n2fr := N2.fr; have n2c2 := N2.c2))))
    all_goals
      go_wp2_with fail
      go_meet
      first | exact ⟨w20.heap.size, _, _, _, _, _, _, rfl, mC, More.size (show More w17 w20 from mC), Box3.new rfl (More.refl _), Lib.hid (fresh_after F9h.out (by have s18 := b18.size; (try simp at s18); have s19 := b19.size; (try simp at s19); have s20 := b20.size; (try simp at s20); (try simp) <;> omega) _)⟩ | exact ⟨w17.heap.size, _, _, _, _, _, _, rfl, Box3.more (show More w17 w20 from mC) (by have s18 := b18.size; (try simp at s18); have s19 := b19.size; (try simp at s19); have s20 := b20.size; (try simp at s20); omega), (by have s18 := b18.size; (try simp at s18); have s19 := b19.size; (try simp at s19); have s20 := b20.size; (try simp at s20); omega), Box3.set N0, Lib.hid (fresh_before F9h.out (by have s18 := b18.size; (try simp at s18); have s19 := b19.size; (try simp at s19); have s20 := b20.size; (try simp at s20); (try simp) <;> omega) (by have s18 := b18.size; (try simp at s18); have s19 := b19.size; (try simp at s19); have s20 := b20.size; (try simp at s20); (try simp) <;> omega) ((((Turns.refl _ _).setCell (.inl (by simp)) _).setCell (.inl (by simp)) _).setCell (.inl (by simp)) _))⟩ | exact ⟨w18.heap.size, _, _, _, _, _, _, rfl, Box3.more (show More w17 w20 from mC) (by have s18 := b18.size; (try simp at s18); have s19 := b19.size; (try simp at s19); have s20 := b20.size; (try simp at s20); omega), (by have s18 := b18.size; (try simp at s18); have s19 := b19.size; (try simp at s19); have s20 := b20.size; (try simp at s20); omega), Box3.set N1, Lib.hid (fresh_before F9h.out (by have s18 := b18.size; (try simp at s18); have s19 := b19.size; (try simp at s19); have s20 := b20.size; (try simp at s20); (try simp) <;> omega) (by have s18 := b18.size; (try simp at s18); have s19 := b19.size; (try simp at s19); have s20 := b20.size; (try simp at s20); (try simp) <;> omega) ((((Turns.refl _ _).setCell (.inl (by simp)) _).setCell (.inl (by simp)) _).setCell (.inl (by simp)) _))⟩ | exact ⟨w19.heap.size, _, _, _, _, _, _, rfl, Box3.more (show More w17 w20 from mC) (by have s18 := b18.size; (try simp at s18); have s19 := b19.size; (try simp at s19); have s20 := b20.size; (try simp at s20); omega), (by have s18 := b18.size; (try simp at s18); have s19 := b19.size; (try simp at s19); have s20 := b20.size; (try simp at s20); omega), Box3.set N2, Lib.hid (fresh_before F9h.out (by have s18 := b18.size; (try simp at s18); have s19 := b19.size; (try simp at s19); have s20 := b20.size; (try simp at s20); (try simp) <;> omega) (by have s18 := b18.size; (try simp at s18); have s19 := b19.size; (try simp at s19); have s20 := b20.size; (try simp at s20); (try simp) <;> omega) ((((Turns.refl _ _).setCell (.inl (by simp)) _).setCell (.inl (by simp)) _).setCell (.inl (by simp)) _))⟩
  case rest =>
  rename World => w21
  obtain ⟨nbh, hra1, hrn1, hrc1, hra2, hrn2, hrc2, rfl, b21, hnh, hBh, hFh⟩ := hcut
  have Fh : tRat.fresh w17.heap.size w21 [.bool r.1.1, .slice hra1 hrn1 hrc1, .slice hra2 hrn2 hrc2] r := by obtain ⟨q1, q2, q3, q4, _⟩ := hFh.out; exact ⟨q1, q2, q3, q4⟩
  clear RHBa0
  clear RHBa1
  clear RHBy
  clear RHBx1
  clear RHBg
  have HBh : ∀ w', More w21 w' → w'.cell? ⟨nbh, 0, none⟩ = some (.bool r.1.1) ∧ w'.cell? ⟨nbh, 1, none⟩ = some (.slice hra1 hrn1 hrc1) ∧ w'.cell? ⟨nbh, 2, none⟩ = some (.slice hra2 hrn2 hrc2) := fun w' h => ⟨(hBh.keep h).c0, (hBh.keep h).c1, (hBh.keep h).c2⟩
  have HBhz := hBh.lt
  have HBa0_21 := HBa0 w21 mC
  have HBa0s21 : W.heap.size < w21.heap.size := by have := More.size (show More w16 w21 from mC); have := HBa0z; omega
  try clear HBa0_20
  try clear HBa0s20
  have HBa1_21 := HBa1 w21 mC
  have HBa1s21 : W.heap.size + 1 < w21.heap.size := by have := More.size (show More w16 w21 from mC); have := HBa1z; omega
  try clear HBa1_20
  try clear HBa1s20
  have HBy_21 := HBy w21 mC
  have HBys21 : nby < w21.heap.size := by have := More.size (show More w16 w21 from mC); have := HByz; omega
  try clear HBy_20
  try clear HBys20
  have HBx1_21 := HBx1 w21 mC
  have HBx1s21 : w6.heap.size < w21.heap.size := by have := More.size (show More w16 w21 from mC); have := HBx1z; omega
  try clear HBx1_20
  try clear HBx1s20
  have HBg_21 := HBg w21 mC
  have HBgs21 : nbg < w21.heap.size := by have := More.size (show More w16 w21 from mC); have := HBgz; omega
  try clear HBg_20
  try clear HBgs20
  have HBh_21 := HBh w21 (More.refl _)
  have HBhs21 := HBhz
  go_wp2_with fail
  refine (laws_eqRat _ _ r _ (Ty.at_more (Ty.fresh_at Fh) mC) (Ty.at_more (Ty.fresh_at Fy) mC) HrL.out).mono ?_
  rintro e w22 ⟨rfl, b22⟩
  have HBa0_22 := HBa0 w22 mC
  have HBa0s22 : W.heap.size < w22.heap.size := by have := More.size (show More w16 w22 from mC); have := HBa0z; omega
  try clear HBa0_21
  try clear HBa0s21
  have HBa1_22 := HBa1 w22 mC
  have HBa1s22 : W.heap.size + 1 < w22.heap.size := by have := More.size (show More w16 w22 from mC); have := HBa1z; omega
  try clear HBa1_21
  try clear HBa1s21
  have HBy_22 := HBy w22 mC
  have HBys22 : nby < w22.heap.size := by have := More.size (show More w16 w22 from mC); have := HByz; omega
  try clear HBy_21
  try clear HBys21
  have HBx1_22 := HBx1 w22 mC
  have HBx1s22 : w6.heap.size < w22.heap.size := by have := More.size (show More w16 w22 from mC); have := HBx1z; omega
  try clear HBx1_21
  try clear HBx1s21
  have HBg_22 := HBg w22 mC
  have HBgs22 : nbg < w22.heap.size := by have := More.size (show More w16 w22 from mC); have := HBgz; omega
  try clear HBg_21
  try clear HBgs21
  have HBh_22 := HBh w22 mC
  have HBhs22 : nbh < w22.heap.size := by have := More.size (show More w21 w22 from mC); have := HBhz; omega
  try clear HBh_21
  try clear HBhs21
  go_wp2_with fail
  refine (laws_heldRat_ _ r _ _ (Ty.at_more (Ty.rd_at (tRat.own_rd M16)) mC) (by decide) (by have := HrC.out; omega) HrL.out).mono ?_
  rintro e w23 ⟨rfl, b23⟩
  have HBa0_23 := HBa0 w23 mC
  have HBa0s23 : W.heap.size < w23.heap.size := by have := More.size (show More w16 w23 from mC); have := HBa0z; omega
  try clear HBa0_22
  try clear HBa0s22
  have HBa1_23 := HBa1 w23 mC
  have HBa1s23 : W.heap.size + 1 < w23.heap.size := by have := More.size (show More w16 w23 from mC); have := HBa1z; omega
  try clear HBa1_22
  try clear HBa1s22
  have HBy_23 := HBy w23 mC
  have HBys23 : nby < w23.heap.size := by have := More.size (show More w16 w23 from mC); have := HByz; omega
  try clear HBy_22
  try clear HBys22
  have HBx1_23 := HBx1 w23 mC
  have HBx1s23 : w6.heap.size < w23.heap.size := by have := More.size (show More w16 w23 from mC); have := HBx1z; omega
  try clear HBx1_22
  try clear HBx1s22
  have HBg_23 := HBg w23 mC
  have HBgs23 : nbg < w23.heap.size := by have := More.size (show More w16 w23 from mC); have := HBgz; omega
  try clear HBg_22
  try clear HBgs22
  have HBh_23 := HBh w23 mC
  have HBhs23 : nbh < w23.heap.size := by have := More.size (show More w21 w23 from mC); have := HBhz; omega
  try clear HBh_22
  try clear HBhs22
  have q23 : ¬ ((1 : Int) + ((cRat r : Nat) : Int) < 0) := by omega
  go_wp2_with fail
  go_ret
  exact ⟨rfl, mC⟩
end Go.Proofs.Ytkhcblheekfdmaa
