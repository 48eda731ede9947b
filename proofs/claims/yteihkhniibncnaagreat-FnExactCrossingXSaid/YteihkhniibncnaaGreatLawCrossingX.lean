/- FnExactCrossingX returns true, for every input. -/
import Derived.Test.YteihkhniibncnaaGreatCrs
import Derived.Test.YteihkhniibncnaaGreatToEdge
import Derived.Test.YteihkhniibncnaaGreatGHelp
import Derived.Test.YteihkhniibncnaaGreatGMk
import Derived.Test.YteihkhniibncnaaGreatCutL
import Derived.Deep.RegionHeld3
namespace Go.Proofs.YteihkhniibncnaaGreat
open Go.RowKit
set_option maxRecDepth 8000 in
set_option maxHeartbeats 12800000 in
theorem law_CrossingX {W : World} (ca0 : Array Value) (p : QE) (hv0 : tEdge.at W ca0.toList p) (ca1 : Array Value) (q : QE) (hv1 : tEdge.at W ca1.toList q) :
    Calls Tryz.prog 3 #[.agg ca0, .agg ca1] W fun e w' => e = .returned (.bool true) ∧ More W w' := by
  have es0 := sh_Edge hv0
  rw [es0] at hv0
  obtain rfl := arr_of es0
  clear es0
  have HV0 := Lib.hid hv0; clear hv0
  have es1 := sh_Edge hv1
  rw [es1] at hv1
  obtain rfl := arr_of es1
  clear es1
  have HV1 := Lib.hid hv1; clear hv1
  obtain ⟨r, er⟩ : ∃ r, r = encR (crsF p q) := ⟨_, rfl⟩
  have ER := Lib.hid er
  have HrL : Hid (wRat r ≤ 1048576) := Lib.hid (by rw [er]; exact crsF_len p q)
  clear er
  have HrC : Hid (cRat r ≤ 8388608) := Lib.hid (by have h := cRat_le r; have h2 := HrL.out; omega)
  obtain ⟨f0, ef0⟩ : ∃ f, f = crsB p q := ⟨_, rfl⟩
  have EF0 := Lib.hid ef0; clear ef0
  have HBa0 : ∀ w', More ((W.alloc (.cells #[.int .i64 p.1.1, .int .i64 p.1.2, .int .i64 p.2.1.1, .int .i64 p.2.1.2, .int .i64 p.2.2.1, .bool p.2.2.2] 25)).alloc (.cells #[.int .i64 q.1.1, .int .i64 q.1.2, .int .i64 q.2.1.1, .int .i64 q.2.1.2, .int .i64 q.2.2.1, .bool q.2.2.2] 25)) w' → w'.cell? ⟨W.heap.size, 0, none⟩ = some (.int .i64 p.1.1) ∧ w'.cell? ⟨W.heap.size, 1, none⟩ = some (.int .i64 p.1.2) ∧ w'.cell? ⟨W.heap.size, 2, none⟩ = some (.int .i64 p.2.1.1) ∧ w'.cell? ⟨W.heap.size, 3, none⟩ = some (.int .i64 p.2.1.2) ∧ w'.cell? ⟨W.heap.size, 4, none⟩ = some (.int .i64 p.2.2.1) ∧ w'.cell? ⟨W.heap.size, 5, none⟩ = some (.bool p.2.2.2) := fun w' h => ⟨box_new (by simp) (More.un h) 0, box_new (by simp) (More.un h) 1, box_new (by simp) (More.un h) 2, box_new (by simp) (More.un h) 3, box_new (by simp) (More.un h) 4, box_new (by simp) (More.un h) 5⟩
  have HBa1 : ∀ w', More ((W.alloc (.cells #[.int .i64 p.1.1, .int .i64 p.1.2, .int .i64 p.2.1.1, .int .i64 p.2.1.2, .int .i64 p.2.2.1, .bool p.2.2.2] 25)).alloc (.cells #[.int .i64 q.1.1, .int .i64 q.1.2, .int .i64 q.2.1.1, .int .i64 q.2.1.2, .int .i64 q.2.2.1, .bool q.2.2.2] 25)) w' → w'.cell? ⟨W.heap.size + 1, 0, none⟩ = some (.int .i64 q.1.1) ∧ w'.cell? ⟨W.heap.size + 1, 1, none⟩ = some (.int .i64 q.1.2) ∧ w'.cell? ⟨W.heap.size + 1, 2, none⟩ = some (.int .i64 q.2.1.1) ∧ w'.cell? ⟨W.heap.size + 1, 3, none⟩ = some (.int .i64 q.2.1.2) ∧ w'.cell? ⟨W.heap.size + 1, 4, none⟩ = some (.int .i64 q.2.2.1) ∧ w'.cell? ⟨W.heap.size + 1, 5, none⟩ = some (.bool q.2.2.2) := fun w' h => ⟨box_new (by simp) h 0, box_new (by simp) h 1, box_new (by simp) h 2, box_new (by simp) h 3, box_new (by simp) h 4, box_new (by simp) h 5⟩
  go_enter Tryz.func3, Tryz.ntmps3
  go_wp2_with fail
  obtain ⟨w1, hW1⟩ : ∃ q9, ((W.alloc (.cells #[.int .i64 p.1.1, .int .i64 p.1.2, .int .i64 p.2.1.1, .int .i64 p.2.1.2, .int .i64 p.2.2.1, .bool p.2.2.2] 25)).alloc (.cells #[.int .i64 q.1.1, .int .i64 q.1.2, .int .i64 q.2.1.1, .int .i64 q.2.1.2, .int .i64 q.2.2.1, .bool q.2.2.2] 25)) = q9 := ⟨_, rfl⟩
  have b1 : More W w1 := by rw [← hW1]; exact Turns.more (((Turns.refl [] _).alloc _).alloc _)
  have HBa0' := HBa0
  clear HBa0
  have HBa0 : ∀ w', More w1 w' → w'.cell? ⟨W.heap.size, 0, none⟩ = some (.int .i64 p.1.1) ∧ w'.cell? ⟨W.heap.size, 1, none⟩ = some (.int .i64 p.1.2) ∧ w'.cell? ⟨W.heap.size, 2, none⟩ = some (.int .i64 p.2.1.1) ∧ w'.cell? ⟨W.heap.size, 3, none⟩ = some (.int .i64 p.2.1.2) ∧ w'.cell? ⟨W.heap.size, 4, none⟩ = some (.int .i64 p.2.2.1) ∧ w'.cell? ⟨W.heap.size, 5, none⟩ = some (.bool p.2.2.2) := by rw [← hW1]; exact HBa0'
  clear HBa0'
  have HBa0z : W.heap.size < w1.heap.size := by rw [← hW1]; simp <;> omega
  have HBa1' := HBa1
  clear HBa1
  have HBa1 : ∀ w', More w1 w' → w'.cell? ⟨W.heap.size + 1, 0, none⟩ = some (.int .i64 q.1.1) ∧ w'.cell? ⟨W.heap.size + 1, 1, none⟩ = some (.int .i64 q.1.2) ∧ w'.cell? ⟨W.heap.size + 1, 2, none⟩ = some (.int .i64 q.2.1.1) ∧ w'.cell? ⟨W.heap.size + 1, 3, none⟩ = some (.int .i64 q.2.1.2) ∧ w'.cell? ⟨W.heap.size + 1, 4, none⟩ = some (.int .i64 q.2.2.1) ∧ w'.cell? ⟨W.heap.size + 1, 5, none⟩ = some (.bool q.2.2.2) := by rw [← hW1]; exact HBa1'
  clear HBa1'
  have HBa1z : W.heap.size + 1 < w1.heap.size := by rw [← hW1]; simp <;> omega
  rw [hW1]
  clear hW1
  have HBa0_1 := HBa0 w1 (More.refl _)
  have HBa0s1 := HBa0z
  have HBa1_1 := HBa1 w1 (More.refl _)
  have HBa1s1 := HBa1z
  have RHBa0 := fun (w' : World) (h : More w1 w') => HBa0 w' (More.trans (show More (w1) w1 from mC) h)
  clear HBa0_1
  have RHBa1 := fun (w' : World) (h : More w1 w') => HBa1 w' (More.trans (show More (w1) w1 from mC) h)
  clear HBa1_1
  go_cut [5, 6] (fun sl sf0 wx => ∃ (nb : Nat) (yra1 : Option Addr) (yrn1 : Nat) (yrc1 : Nat) (yra2 : Option Addr) (yrn2 : Nat) (yrc2 : Nat), sl = .pointer (some ⟨nb, 0, none⟩) ∧ sf0 = .bool f0 ∧ More w1 wx ∧ w1.heap.size ≤ nb ∧ Box3 wx nb (.bool r.1.1) (.slice yra1 yrn1 yrc1) (.slice yra2 yrn2 yrc2) ∧ Hid (∃ bs, tRat.own bs wx [.bool r.1.1, .slice yra1 yrn1 yrc1, .slice yra2 yrn2 yrc2] r ∧ bs.Nodup ∧ (∀ b ∈ bs, w1.heap.size ≤ b) ∧ nb ∉ bs))
  case first =>
    go_region_held3 (fun w' => More w1 w') (first | exact More.refl _ | exact mC2) (first | (go_at_call 11; (with_reducible refine (laws_toEdge _ p _ (Ty.at_more HV0.out mC)).mono ?_); rintro e w2 ⟨rfl, b2⟩; (have z2 : w1.heap.size ≤ w2.heap.size := by have := b2.size; (try simp at this); omega); (try (have N0 : Box3 w2 (w1.heap.size) (.bool false) (.slice none 0 0) (.slice none 0 0) := Box3.newD (by simp) b2)); (try (have n0c0 := N0.c0; have n0c1 := N0.c1; have n0fr := N0.fr; have n0c2 := N0.c2))) | (go_at_call 11; (with_reducible refine (laws_toEdge _ q _ (Ty.at_more HV1.out mC)).mono ?_); rintro e w3 ⟨rfl, b3⟩; (have z3 : w1.heap.size ≤ w3.heap.size := by have := b3.size; (try simp at this); omega); (try (have N0 : Box3 w3 (w1.heap.size) (.bool false) (.slice none 0 0) (.slice none 0 0) := Box3.keep N0 b3)); (try (have n0c0 := N0.c0; have n0c1 := N0.c1; have n0fr := N0.fr; have n0c2 := N0.c2)); (try (have N1 : Box3 w3 (w2.heap.size) (.bool false) (.slice none 0 0) (.slice none 0 0) := Box3.new (by simp) b3)); (try (have n1c0 := N1.c0; have n1c1 := N1.c1; have n1fr := N1.fr; have n1c2 := N1.c2))) | (go_at_call 10; (with_reducible refine (spec_CrossingXL p q _ (edge_in HV0.out).1 (edge_in HV0.out).2 (edge_in HV1.out).1 (edge_in HV1.out).2).mono ?_); rintro e w4 ⟨q9, rfl, b4, F9⟩; rw [← EF0.out]; rw [← ER.out] at F9; obtain ⟨yra1, yrn1, yrc1, yra2, yrn2, yrc2, rfl⟩ := sh_Rat (Ty.fresh_at F9); have F9h := Lib.hid F9; clear F9; (have z4 : w1.heap.size ≤ w4.heap.size := by have := b4.size; (try simp at this); omega); (try (have N0 : Box3 w4 (w1.heap.size) (.bool false) (.slice none 0 0) (.slice none 0 0) := Box3.keep N0 b4)); (try (have n0c0 := N0.c0; have n0c1 := N0.c1; have n0fr := N0.fr; have n0c2 := N0.c2)); (try (have N1 : Box3 w4 (w2.heap.size) (.bool false) (.slice none 0 0) (.slice none 0 0) := Box3.keep N1 b4)); (try (have n1c0 := N1.c0; have n1c1 := N1.c1; have n1fr := N1.fr; have n1c2 := N1.c2)); (try (have N2 : Box3 w4 (w3.heap.size) (.bool false) (.slice none 0 0) (.slice none 0 0) := Box3.new (by simp) b4)); (try (have n2c0 := N2.c0; have n2c1 := N2.c1; have n2fr := N2.fr; have n2c2 := N2.c2))))
    all_goals
      go_wp2_with fail
      go_meet
      first | exact ⟨w4.heap.size, _, _, _, _, _, _, rfl, rfl, mC, More.size (show More w1 w4 from mC), Box3.new rfl (More.refl _), Lib.hid (fresh_after F9h.out (by have s2 := b2.size; (try simp at s2); have s3 := b3.size; (try simp at s3); have s4 := b4.size; (try simp at s4); (try simp) <;> omega) _)⟩ | exact ⟨w1.heap.size, _, _, _, _, _, _, rfl, rfl, Box3.more (show More w1 w4 from mC) (by have s2 := b2.size; (try simp at s2); have s3 := b3.size; (try simp at s3); have s4 := b4.size; (try simp at s4); omega), (by have s2 := b2.size; (try simp at s2); have s3 := b3.size; (try simp at s3); have s4 := b4.size; (try simp at s4); omega), Box3.set N0, Lib.hid (fresh_before F9h.out (by have s2 := b2.size; (try simp at s2); have s3 := b3.size; (try simp at s3); have s4 := b4.size; (try simp at s4); (try simp) <;> omega) (by have s2 := b2.size; (try simp at s2); have s3 := b3.size; (try simp at s3); have s4 := b4.size; (try simp at s4); (try simp) <;> omega) ((((Turns.refl _ _).setCell (.inl (by simp)) _).setCell (.inl (by simp)) _).setCell (.inl (by simp)) _))⟩ | exact ⟨w2.heap.size, _, _, _, _, _, _, rfl, rfl, Box3.more (show More w1 w4 from mC) (by have s2 := b2.size; (try simp at s2); have s3 := b3.size; (try simp at s3); have s4 := b4.size; (try simp at s4); omega), (by have s2 := b2.size; (try simp at s2); have s3 := b3.size; (try simp at s3); have s4 := b4.size; (try simp at s4); omega), Box3.set N1, Lib.hid (fresh_before F9h.out (by have s2 := b2.size; (try simp at s2); have s3 := b3.size; (try simp at s3); have s4 := b4.size; (try simp at s4); (try simp) <;> omega) (by have s2 := b2.size; (try simp at s2); have s3 := b3.size; (try simp at s3); have s4 := b4.size; (try simp at s4); (try simp) <;> omega) ((((Turns.refl _ _).setCell (.inl (by simp)) _).setCell (.inl (by simp)) _).setCell (.inl (by simp)) _))⟩ | exact ⟨w3.heap.size, _, _, _, _, _, _, rfl, rfl, Box3.more (show More w1 w4 from mC) (by have s2 := b2.size; (try simp at s2); have s3 := b3.size; (try simp at s3); have s4 := b4.size; (try simp at s4); omega), (by have s2 := b2.size; (try simp at s2); have s3 := b3.size; (try simp at s3); have s4 := b4.size; (try simp at s4); omega), Box3.set N2, Lib.hid (fresh_before F9h.out (by have s2 := b2.size; (try simp at s2); have s3 := b3.size; (try simp at s3); have s4 := b4.size; (try simp at s4); (try simp) <;> omega) (by have s2 := b2.size; (try simp at s2); have s3 := b3.size; (try simp at s3); have s4 := b4.size; (try simp at s4); (try simp) <;> omega) ((((Turns.refl _ _).setCell (.inl (by simp)) _).setCell (.inl (by simp)) _).setCell (.inl (by simp)) _))⟩
  case rest =>
  rename World => w5
  obtain ⟨nby, yra1, yrn1, yrc1, yra2, yrn2, yrc2, rfl, rfl, b5, hny, hBy, hFy⟩ := hcut
  have Fy : tRat.fresh w1.heap.size w5 [.bool r.1.1, .slice yra1 yrn1 yrc1, .slice yra2 yrn2 yrc2] r := by obtain ⟨q1, q2, q3, q4, _⟩ := hFy.out; exact ⟨q1, q2, q3, q4⟩
  clear RHBa0
  clear RHBa1
  have HBy : ∀ w', More w5 w' → w'.cell? ⟨nby, 0, none⟩ = some (.bool r.1.1) ∧ w'.cell? ⟨nby, 1, none⟩ = some (.slice yra1 yrn1 yrc1) ∧ w'.cell? ⟨nby, 2, none⟩ = some (.slice yra2 yrn2 yrc2) := fun w' h => ⟨(hBy.keep h).c0, (hBy.keep h).c1, (hBy.keep h).c2⟩
  have HByz := hBy.lt
  have HBa0_5 := HBa0 w5 mC
  have HBa0s5 : W.heap.size < w5.heap.size := by have := More.size (show More w1 w5 from mC); have := HBa0z; omega
  try clear HBa0_4
  try clear HBa0s4
  have HBa1_5 := HBa1 w5 mC
  have HBa1s5 : W.heap.size + 1 < w5.heap.size := by have := More.size (show More w1 w5 from mC); have := HBa1z; omega
  try clear HBa1_4
  try clear HBa1s4
  have HBy_5 := HBy w5 (More.refl _)
  have HBys5 := HByz
  go_wp2_with fail
  have RHBa0 := fun (w' : World) (h : More w5 w') => HBa0 w' (More.trans (show More (w1) w5 from mC) h)
  clear HBa0_5
  have RHBa1 := fun (w' : World) (h : More w5 w') => HBa1 w' (More.trans (show More (w1) w5 from mC) h)
  clear HBa1_5
  have RHBy := fun (w' : World) (h : More w5 w') => HBy w' (More.trans (show More (w5) w5 from mC) h)
  clear HBy_5
  go_cut [7, 8] (fun sl sf0 wx => ∃ (nb : Nat) (gra1 : Option Addr) (grn1 : Nat) (grc1 : Nat) (gra2 : Option Addr) (grn2 : Nat) (grc2 : Nat), sl = .pointer (some ⟨nb, 0, none⟩) ∧ sf0 = .bool f0 ∧ More w5 wx ∧ w5.heap.size ≤ nb ∧ Box3 wx nb (.bool r.1.1) (.slice gra1 grn1 grc1) (.slice gra2 grn2 grc2) ∧ Hid (∃ bs, tRat.own bs wx [.bool r.1.1, .slice gra1 grn1 grc1, .slice gra2 grn2 grc2] r ∧ bs.Nodup ∧ (∀ b ∈ bs, w5.heap.size ≤ b) ∧ nb ∉ bs))
  case first =>
    go_region_held3 (fun w' => More w5 w') (first | exact More.refl _ | exact mC2) (first | (go_at_call 11; (with_reducible refine (laws_toEdge _ p _ (Ty.at_more HV0.out mC)).mono ?_); rintro e w6 ⟨rfl, b6⟩; (have z6 : w5.heap.size ≤ w6.heap.size := by have := b6.size; (try simp at this); omega); (try (have N0 : Box3 w6 (w5.heap.size) (.bool false) (.slice none 0 0) (.slice none 0 0) := Box3.newD (by simp) b6)); (try (have n0c0 := N0.c0; have n0c1 := N0.c1; have n0fr := N0.fr; have n0c2 := N0.c2))) | (go_at_call 11; (with_reducible refine (laws_toEdge _ q _ (Ty.at_more HV1.out mC)).mono ?_); rintro e w7 ⟨rfl, b7⟩; (have z7 : w5.heap.size ≤ w7.heap.size := by have := b7.size; (try simp at this); omega); (try (have N0 : Box3 w7 (w5.heap.size) (.bool false) (.slice none 0 0) (.slice none 0 0) := Box3.keep N0 b7)); (try (have n0c0 := N0.c0; have n0c1 := N0.c1; have n0fr := N0.fr; have n0c2 := N0.c2)); (try (have N1 : Box3 w7 (w6.heap.size) (.bool false) (.slice none 0 0) (.slice none 0 0) := Box3.new (by simp) b7)); (try (have n1c0 := N1.c0; have n1c1 := N1.c1; have n1fr := N1.fr; have n1c2 := N1.c2))) | (go_at_call 12; (with_reducible refine (impl_CrossingXL p q _ (edge_in HV0.out).1 (edge_in HV0.out).2 (edge_in HV1.out).1 (edge_in HV1.out).2).mono ?_); rintro e w8 ⟨q9, rfl, b8, F9⟩; rw [← EF0.out]; rw [← ER.out] at F9; obtain ⟨gra1, grn1, grc1, gra2, grn2, grc2, rfl⟩ := sh_Rat (Ty.fresh_at F9); have F9h := Lib.hid F9; clear F9; (have z8 : w5.heap.size ≤ w8.heap.size := by have := b8.size; (try simp at this); omega); (try (have N0 : Box3 w8 (w5.heap.size) (.bool false) (.slice none 0 0) (.slice none 0 0) := Box3.keep N0 b8)); (try (have n0c0 := N0.c0; have n0c1 := N0.c1; have n0fr := N0.fr; have n0c2 := N0.c2)); (try (have N1 : Box3 w8 (w6.heap.size) (.bool false) (.slice none 0 0) (.slice none 0 0) := Box3.keep N1 b8)); (try (have n1c0 := N1.c0; have n1c1 := N1.c1; have n1fr := N1.fr; have n1c2 := N1.c2)); (try (have N2 : Box3 w8 (w7.heap.size) (.bool false) (.slice none 0 0) (.slice none 0 0) := Box3.new (by simp) b8)); (try (have n2c0 := N2.c0; have n2c1 := N2.c1; have n2fr := N2.fr; have n2c2 := N2.c2))))
    all_goals
      go_wp2_with fail
      go_meet
      first | exact ⟨w8.heap.size, _, _, _, _, _, _, rfl, rfl, mC, More.size (show More w5 w8 from mC), Box3.new rfl (More.refl _), Lib.hid (fresh_after F9h.out (by have s6 := b6.size; (try simp at s6); have s7 := b7.size; (try simp at s7); have s8 := b8.size; (try simp at s8); (try simp) <;> omega) _)⟩ | exact ⟨w5.heap.size, _, _, _, _, _, _, rfl, rfl, Box3.more (show More w5 w8 from mC) (by have s6 := b6.size; (try simp at s6); have s7 := b7.size; (try simp at s7); have s8 := b8.size; (try simp at s8); omega), (by have s6 := b6.size; (try simp at s6); have s7 := b7.size; (try simp at s7); have s8 := b8.size; (try simp at s8); omega), Box3.set N0, Lib.hid (fresh_before F9h.out (by have s6 := b6.size; (try simp at s6); have s7 := b7.size; (try simp at s7); have s8 := b8.size; (try simp at s8); (try simp) <;> omega) (by have s6 := b6.size; (try simp at s6); have s7 := b7.size; (try simp at s7); have s8 := b8.size; (try simp at s8); (try simp) <;> omega) ((((Turns.refl _ _).setCell (.inl (by simp)) _).setCell (.inl (by simp)) _).setCell (.inl (by simp)) _))⟩ | exact ⟨w6.heap.size, _, _, _, _, _, _, rfl, rfl, Box3.more (show More w5 w8 from mC) (by have s6 := b6.size; (try simp at s6); have s7 := b7.size; (try simp at s7); have s8 := b8.size; (try simp at s8); omega), (by have s6 := b6.size; (try simp at s6); have s7 := b7.size; (try simp at s7); have s8 := b8.size; (try simp at s8); omega), Box3.set N1, Lib.hid (fresh_before F9h.out (by have s6 := b6.size; (try simp at s6); have s7 := b7.size; (try simp at s7); have s8 := b8.size; (try simp at s8); (try simp) <;> omega) (by have s6 := b6.size; (try simp at s6); have s7 := b7.size; (try simp at s7); have s8 := b8.size; (try simp at s8); (try simp) <;> omega) ((((Turns.refl _ _).setCell (.inl (by simp)) _).setCell (.inl (by simp)) _).setCell (.inl (by simp)) _))⟩ | exact ⟨w7.heap.size, _, _, _, _, _, _, rfl, rfl, Box3.more (show More w5 w8 from mC) (by have s6 := b6.size; (try simp at s6); have s7 := b7.size; (try simp at s7); have s8 := b8.size; (try simp at s8); omega), (by have s6 := b6.size; (try simp at s6); have s7 := b7.size; (try simp at s7); have s8 := b8.size; (try simp at s8); omega), Box3.set N2, Lib.hid (fresh_before F9h.out (by have s6 := b6.size; (try simp at s6); have s7 := b7.size; (try simp at s7); have s8 := b8.size; (try simp at s8); (try simp) <;> omega) (by have s6 := b6.size; (try simp at s6); have s7 := b7.size; (try simp at s7); have s8 := b8.size; (try simp at s8); (try simp) <;> omega) ((((Turns.refl _ _).setCell (.inl (by simp)) _).setCell (.inl (by simp)) _).setCell (.inl (by simp)) _))⟩
  case rest =>
  rename World => w9
  obtain ⟨nbg, gra1, grn1, grc1, gra2, grn2, grc2, rfl, rfl, b9, hng, hBg, hFg⟩ := hcut
  obtain ⟨bg, G, ng, lg, ning⟩ := hFg.out
  clear RHBa0
  clear RHBa1
  clear RHBy
  have HBg : ∀ w', More w9 w' → w'.cell? ⟨nbg, 0, none⟩ = some (.bool r.1.1) ∧ w'.cell? ⟨nbg, 1, none⟩ = some (.slice gra1 grn1 grc1) ∧ w'.cell? ⟨nbg, 2, none⟩ = some (.slice gra2 grn2 grc2) := fun w' h => ⟨(hBg.keep h).c0, (hBg.keep h).c1, (hBg.keep h).c2⟩
  have HBgz := hBg.lt
  have HBa0_9 := HBa0 w9 mC
  have HBa0s9 : W.heap.size < w9.heap.size := by have := More.size (show More w1 w9 from mC); have := HBa0z; omega
  try clear HBa0_8
  try clear HBa0s8
  have HBa1_9 := HBa1 w9 mC
  have HBa1s9 : W.heap.size + 1 < w9.heap.size := by have := More.size (show More w1 w9 from mC); have := HBa1z; omega
  try clear HBa1_8
  try clear HBa1s8
  have HBy_9 := HBy w9 mC
  have HBys9 : nby < w9.heap.size := by have := More.size (show More w5 w9 from mC); have := HByz; omega
  try clear HBy_8
  try clear HBys8
  have HBg_9 := HBg w9 (More.refl _)
  have HBgs9 := HBgz
  go_wp2_with fail
  have HBa0ltg : ∀ k ∈ bg, W.heap.size < k := fun k hk => Nat.lt_of_lt_of_le (show W.heap.size < (w1).heap.size from by exact HBa0z) (Nat.le_trans (More.size (show More (w1) _ from mC)) (lg k hk))
  have HBa1ltg : ∀ k ∈ bg, W.heap.size + 1 < k := fun k hk => Nat.lt_of_lt_of_le (show W.heap.size + 1 < (w1).heap.size from by exact HBa1z) (Nat.le_trans (More.size (show More (w1) _ from mC)) (lg k hk))
  have HByltg : ∀ k ∈ bg, nby < k := fun k hk => Nat.lt_of_lt_of_le (show nby < (w5).heap.size from by exact HByz) (Nat.le_trans (More.size (show More (w5) _ from mC)) (lg k hk))
  refine (laws_eqRat _ _ r _ (Ty.at_more (Ty.rd_at (tRat.own_rd G)) mC) (Ty.at_more (Ty.fresh_at Fy) mC) HrL.out).mono ?_
  rintro e w10 ⟨rfl, b10⟩
  have HBa0_10 := HBa0 w10 mC
  have HBa0s10 : W.heap.size < w10.heap.size := by have := More.size (show More w1 w10 from mC); have := HBa0z; omega
  try clear HBa0_9
  try clear HBa0s9
  have HBa1_10 := HBa1 w10 mC
  have HBa1s10 : W.heap.size + 1 < w10.heap.size := by have := More.size (show More w1 w10 from mC); have := HBa1z; omega
  try clear HBa1_9
  try clear HBa1s9
  have HBy_10 := HBy w10 mC
  have HBys10 : nby < w10.heap.size := by have := More.size (show More w5 w10 from mC); have := HByz; omega
  try clear HBy_9
  try clear HBys9
  have HBg_10 := HBg w10 mC
  have HBgs10 : nbg < w10.heap.size := by have := More.size (show More w9 w10 from mC); have := HBgz; omega
  try clear HBg_9
  try clear HBgs9
  go_wp2_with fail
  refine (laws_markRat_ bg _ r _ _ (Ty.own_more G mC) ng (by omega) (by have := HrC.out; omega) HrL.out).mono ?_
  rintro e w11 ⟨rfl, T11, M11⟩
  have HBa0z' : W.heap.size < w11.heap.size := Nat.lt_of_lt_of_le (Nat.lt_of_lt_of_le (show W.heap.size < (w1).heap.size from by exact HBa0z) (More.size (show More (w1) _ from mC))) T11.size
  have HBa0k : w11.cell? ⟨W.heap.size, 0, none⟩ = some (.int .i64 p.1.1) ∧ w11.cell? ⟨W.heap.size, 1, none⟩ = some (.int .i64 p.1.2) ∧ w11.cell? ⟨W.heap.size, 2, none⟩ = some (.int .i64 p.2.1.1) ∧ w11.cell? ⟨W.heap.size, 3, none⟩ = some (.int .i64 p.2.1.2) ∧ w11.cell? ⟨W.heap.size, 4, none⟩ = some (.int .i64 p.2.2.1) ∧ w11.cell? ⟨W.heap.size, 5, none⟩ = some (.bool p.2.2.2) := ⟨turn_cell T11 (Nat.lt_of_lt_of_le (show W.heap.size < (w1).heap.size from by exact HBa0z) (More.size (show More (w1) _ from mC))) (fun h => by have h1 := HBa0ltg _ h; omega) (HBa0 _ mC).1, turn_cell T11 (Nat.lt_of_lt_of_le (show W.heap.size < (w1).heap.size from by exact HBa0z) (More.size (show More (w1) _ from mC))) (fun h => by have h1 := HBa0ltg _ h; omega) (HBa0 _ mC).2.1, turn_cell T11 (Nat.lt_of_lt_of_le (show W.heap.size < (w1).heap.size from by exact HBa0z) (More.size (show More (w1) _ from mC))) (fun h => by have h1 := HBa0ltg _ h; omega) (HBa0 _ mC).2.2.1, turn_cell T11 (Nat.lt_of_lt_of_le (show W.heap.size < (w1).heap.size from by exact HBa0z) (More.size (show More (w1) _ from mC))) (fun h => by have h1 := HBa0ltg _ h; omega) (HBa0 _ mC).2.2.2.1, turn_cell T11 (Nat.lt_of_lt_of_le (show W.heap.size < (w1).heap.size from by exact HBa0z) (More.size (show More (w1) _ from mC))) (fun h => by have h1 := HBa0ltg _ h; omega) (HBa0 _ mC).2.2.2.2.1, turn_cell T11 (Nat.lt_of_lt_of_le (show W.heap.size < (w1).heap.size from by exact HBa0z) (More.size (show More (w1) _ from mC))) (fun h => by have h1 := HBa0ltg _ h; omega) (HBa0 _ mC).2.2.2.2.2⟩
  have HBa1z' : W.heap.size + 1 < w11.heap.size := Nat.lt_of_lt_of_le (Nat.lt_of_lt_of_le (show W.heap.size + 1 < (w1).heap.size from by exact HBa1z) (More.size (show More (w1) _ from mC))) T11.size
  have HBa1k : w11.cell? ⟨W.heap.size + 1, 0, none⟩ = some (.int .i64 q.1.1) ∧ w11.cell? ⟨W.heap.size + 1, 1, none⟩ = some (.int .i64 q.1.2) ∧ w11.cell? ⟨W.heap.size + 1, 2, none⟩ = some (.int .i64 q.2.1.1) ∧ w11.cell? ⟨W.heap.size + 1, 3, none⟩ = some (.int .i64 q.2.1.2) ∧ w11.cell? ⟨W.heap.size + 1, 4, none⟩ = some (.int .i64 q.2.2.1) ∧ w11.cell? ⟨W.heap.size + 1, 5, none⟩ = some (.bool q.2.2.2) := ⟨turn_cell T11 (Nat.lt_of_lt_of_le (show W.heap.size + 1 < (w1).heap.size from by exact HBa1z) (More.size (show More (w1) _ from mC))) (fun h => by have h1 := HBa1ltg _ h; omega) (HBa1 _ mC).1, turn_cell T11 (Nat.lt_of_lt_of_le (show W.heap.size + 1 < (w1).heap.size from by exact HBa1z) (More.size (show More (w1) _ from mC))) (fun h => by have h1 := HBa1ltg _ h; omega) (HBa1 _ mC).2.1, turn_cell T11 (Nat.lt_of_lt_of_le (show W.heap.size + 1 < (w1).heap.size from by exact HBa1z) (More.size (show More (w1) _ from mC))) (fun h => by have h1 := HBa1ltg _ h; omega) (HBa1 _ mC).2.2.1, turn_cell T11 (Nat.lt_of_lt_of_le (show W.heap.size + 1 < (w1).heap.size from by exact HBa1z) (More.size (show More (w1) _ from mC))) (fun h => by have h1 := HBa1ltg _ h; omega) (HBa1 _ mC).2.2.2.1, turn_cell T11 (Nat.lt_of_lt_of_le (show W.heap.size + 1 < (w1).heap.size from by exact HBa1z) (More.size (show More (w1) _ from mC))) (fun h => by have h1 := HBa1ltg _ h; omega) (HBa1 _ mC).2.2.2.2.1, turn_cell T11 (Nat.lt_of_lt_of_le (show W.heap.size + 1 < (w1).heap.size from by exact HBa1z) (More.size (show More (w1) _ from mC))) (fun h => by have h1 := HBa1ltg _ h; omega) (HBa1 _ mC).2.2.2.2.2⟩
  have HByz' : nby < w11.heap.size := Nat.lt_of_lt_of_le (Nat.lt_of_lt_of_le (show nby < (w5).heap.size from by exact HByz) (More.size (show More (w5) _ from mC))) T11.size
  have HByk : w11.cell? ⟨nby, 0, none⟩ = some (.bool r.1.1) ∧ w11.cell? ⟨nby, 1, none⟩ = some (.slice yra1 yrn1 yrc1) ∧ w11.cell? ⟨nby, 2, none⟩ = some (.slice yra2 yrn2 yrc2) := ⟨turn_cell T11 (Nat.lt_of_lt_of_le (show nby < (w5).heap.size from by exact HByz) (More.size (show More (w5) _ from mC))) (fun h => by have h1 := HByltg _ h; omega) (HBy _ mC).1, turn_cell T11 (Nat.lt_of_lt_of_le (show nby < (w5).heap.size from by exact HByz) (More.size (show More (w5) _ from mC))) (fun h => by have h1 := HByltg _ h; omega) (HBy _ mC).2.1, turn_cell T11 (Nat.lt_of_lt_of_le (show nby < (w5).heap.size from by exact HByz) (More.size (show More (w5) _ from mC))) (fun h => by have h1 := HByltg _ h; omega) (HBy _ mC).2.2⟩
  have HBgz' : nbg < w11.heap.size := Nat.lt_of_lt_of_le (Nat.lt_of_lt_of_le (show nbg < (w9).heap.size from by exact HBgz) (More.size (show More (w9) _ from mC))) T11.size
  have HBgk : w11.cell? ⟨nbg, 0, none⟩ = some (.bool r.1.1) ∧ w11.cell? ⟨nbg, 1, none⟩ = some (.slice gra1 grn1 grc1) ∧ w11.cell? ⟨nbg, 2, none⟩ = some (.slice gra2 grn2 grc2) := ⟨turn_cell T11 (Nat.lt_of_lt_of_le (show nbg < (w9).heap.size from by exact HBgz) (More.size (show More (w9) _ from mC))) ning (HBg _ mC).1, turn_cell T11 (Nat.lt_of_lt_of_le (show nbg < (w9).heap.size from by exact HBgz) (More.size (show More (w9) _ from mC))) ning (HBg _ mC).2.1, turn_cell T11 (Nat.lt_of_lt_of_le (show nbg < (w9).heap.size from by exact HBgz) (More.size (show More (w9) _ from mC))) ning (HBg _ mC).2.2⟩
  have b11 := More.turn (show More w5 _ from mC) T11 lg
  try clear HBa0_10
  try clear HBa0s10
  clear HBa0
  have HBa0 : ∀ w', More w11 w' → w'.cell? ⟨W.heap.size, 0, none⟩ = some (.int .i64 p.1.1) ∧ w'.cell? ⟨W.heap.size, 1, none⟩ = some (.int .i64 p.1.2) ∧ w'.cell? ⟨W.heap.size, 2, none⟩ = some (.int .i64 p.2.1.1) ∧ w'.cell? ⟨W.heap.size, 3, none⟩ = some (.int .i64 p.2.1.2) ∧ w'.cell? ⟨W.heap.size, 4, none⟩ = some (.int .i64 p.2.2.1) ∧ w'.cell? ⟨W.heap.size, 5, none⟩ = some (.bool p.2.2.2) := fun w' h => ⟨box_keep h HBa0z' (HBa0k.1), box_keep h HBa0z' (HBa0k.2.1), box_keep h HBa0z' (HBa0k.2.2.1), box_keep h HBa0z' (HBa0k.2.2.2.1), box_keep h HBa0z' (HBa0k.2.2.2.2.1), box_keep h HBa0z' (HBa0k.2.2.2.2.2)⟩
  try clear HBa0z
  have HBa0z := HBa0z'; clear HBa0z' HBa0k
  have HBa0_11 := HBa0 w11 (More.refl _)
  have HBa0s11 := HBa0z
  try clear HBa1_10
  try clear HBa1s10
  clear HBa1
  have HBa1 : ∀ w', More w11 w' → w'.cell? ⟨W.heap.size + 1, 0, none⟩ = some (.int .i64 q.1.1) ∧ w'.cell? ⟨W.heap.size + 1, 1, none⟩ = some (.int .i64 q.1.2) ∧ w'.cell? ⟨W.heap.size + 1, 2, none⟩ = some (.int .i64 q.2.1.1) ∧ w'.cell? ⟨W.heap.size + 1, 3, none⟩ = some (.int .i64 q.2.1.2) ∧ w'.cell? ⟨W.heap.size + 1, 4, none⟩ = some (.int .i64 q.2.2.1) ∧ w'.cell? ⟨W.heap.size + 1, 5, none⟩ = some (.bool q.2.2.2) := fun w' h => ⟨box_keep h HBa1z' (HBa1k.1), box_keep h HBa1z' (HBa1k.2.1), box_keep h HBa1z' (HBa1k.2.2.1), box_keep h HBa1z' (HBa1k.2.2.2.1), box_keep h HBa1z' (HBa1k.2.2.2.2.1), box_keep h HBa1z' (HBa1k.2.2.2.2.2)⟩
  try clear HBa1z
  have HBa1z := HBa1z'; clear HBa1z' HBa1k
  have HBa1_11 := HBa1 w11 (More.refl _)
  have HBa1s11 := HBa1z
  try clear HBy_10
  try clear HBys10
  clear HBy
  have HBy : ∀ w', More w11 w' → w'.cell? ⟨nby, 0, none⟩ = some (.bool r.1.1) ∧ w'.cell? ⟨nby, 1, none⟩ = some (.slice yra1 yrn1 yrc1) ∧ w'.cell? ⟨nby, 2, none⟩ = some (.slice yra2 yrn2 yrc2) := fun w' h => ⟨box_keep h HByz' (HByk.1), box_keep h HByz' (HByk.2.1), box_keep h HByz' (HByk.2.2)⟩
  try clear HByz
  have HByz := HByz'; clear HByz' HByk
  have HBy_11 := HBy w11 (More.refl _)
  have HBys11 := HByz
  try clear HBg_10
  try clear HBgs10
  clear HBg
  have HBg : ∀ w', More w11 w' → w'.cell? ⟨nbg, 0, none⟩ = some (.bool r.1.1) ∧ w'.cell? ⟨nbg, 1, none⟩ = some (.slice gra1 grn1 grc1) ∧ w'.cell? ⟨nbg, 2, none⟩ = some (.slice gra2 grn2 grc2) := fun w' h => ⟨box_keep h HBgz' (HBgk.1), box_keep h HBgz' (HBgk.2.1), box_keep h HBgz' (HBgk.2.2)⟩
  try clear HBgz
  have HBgz := HBgz'; clear HBgz' HBgk
  have HBg_11 := HBg w11 (More.refl _)
  have HBgs11 := HBgz
  go_wp2_with fail
  refine (laws_heldRat_ _ r _ _ (Ty.at_more (Ty.rd_at (tRat.own_rd M11)) mC) (by decide) (by have := HrC.out; omega) HrL.out).mono ?_
  rintro e w12 ⟨rfl, b12⟩
  have HBa0_12 := HBa0 w12 mC
  have HBa0s12 : W.heap.size < w12.heap.size := by have := More.size (show More w11 w12 from mC); have := HBa0z; omega
  try clear HBa0_11
  try clear HBa0s11
  have HBa1_12 := HBa1 w12 mC
  have HBa1s12 : W.heap.size + 1 < w12.heap.size := by have := More.size (show More w11 w12 from mC); have := HBa1z; omega
  try clear HBa1_11
  try clear HBa1s11
  have HBy_12 := HBy w12 mC
  have HBys12 : nby < w12.heap.size := by have := More.size (show More w11 w12 from mC); have := HByz; omega
  try clear HBy_11
  try clear HBys11
  have HBg_12 := HBg w12 mC
  have HBgs12 : nbg < w12.heap.size := by have := More.size (show More w11 w12 from mC); have := HBgz; omega
  try clear HBg_11
  try clear HBgs11
  have q12 : ¬ ((1 : Int) + ((cRat r : Nat) : Int) < 0) := by omega
  go_wp2_with fail
  have RHBa0 := fun (w' : World) (h : More w12 w') => HBa0 w' (More.trans (show More (w11) w12 from mC) h)
  clear HBa0_12
  have RHBa1 := fun (w' : World) (h : More w12 w') => HBa1 w' (More.trans (show More (w11) w12 from mC) h)
  clear HBa1_12
  have RHBy := fun (w' : World) (h : More w12 w') => HBy w' (More.trans (show More (w11) w12 from mC) h)
  clear HBy_12
  have RHBg := fun (w' : World) (h : More w12 w') => HBg w' (More.trans (show More (w11) w12 from mC) h)
  clear HBg_12
  go_cut [11, 12] (fun sl sf0 wx => ∃ (nb : Nat) (hra1 : Option Addr) (hrn1 : Nat) (hrc1 : Nat) (hra2 : Option Addr) (hrn2 : Nat) (hrc2 : Nat), sl = .pointer (some ⟨nb, 0, none⟩) ∧ sf0 = .bool f0 ∧ More w12 wx ∧ w12.heap.size ≤ nb ∧ Box3 wx nb (.bool r.1.1) (.slice hra1 hrn1 hrc1) (.slice hra2 hrn2 hrc2) ∧ Hid (∃ bs, tRat.own bs wx [.bool r.1.1, .slice hra1 hrn1 hrc1, .slice hra2 hrn2 hrc2] r ∧ bs.Nodup ∧ (∀ b ∈ bs, w12.heap.size ≤ b) ∧ nb ∉ bs))
  case first =>
    go_region_held3 (fun w' => More w12 w') (first | exact More.refl _ | exact mC2) (first | (go_at_call 11; (with_reducible refine (laws_toEdge _ p _ (Ty.at_more HV0.out mC)).mono ?_); rintro e w13 ⟨rfl, b13⟩; (have z13 : w12.heap.size ≤ w13.heap.size := by have := b13.size; (try simp at this); omega); (try (have N0 : Box3 w13 (w12.heap.size) (.bool false) (.slice none 0 0) (.slice none 0 0) := Box3.newD (by simp) b13)); (try (have n0c0 := N0.c0; have n0c1 := N0.c1; have n0fr := N0.fr; have n0c2 := N0.c2))) | (go_at_call 11; (with_reducible refine (laws_toEdge _ q _ (Ty.at_more HV1.out mC)).mono ?_); rintro e w14 ⟨rfl, b14⟩; (have z14 : w12.heap.size ≤ w14.heap.size := by have := b14.size; (try simp at this); omega); (try (have N0 : Box3 w14 (w12.heap.size) (.bool false) (.slice none 0 0) (.slice none 0 0) := Box3.keep N0 b14)); (try (have n0c0 := N0.c0; have n0c1 := N0.c1; have n0fr := N0.fr; have n0c2 := N0.c2)); (try (have N1 : Box3 w14 (w13.heap.size) (.bool false) (.slice none 0 0) (.slice none 0 0) := Box3.new (by simp) b14)); (try (have n1c0 := N1.c0; have n1c1 := N1.c1; have n1fr := N1.fr; have n1c2 := N1.c2))) | (go_at_call 12; (with_reducible refine (impl_CrossingXL p q _ (edge_in HV0.out).1 (edge_in HV0.out).2 (edge_in HV1.out).1 (edge_in HV1.out).2).mono ?_); rintro e w15 ⟨q9, rfl, b15, F9⟩; rw [← EF0.out]; rw [← ER.out] at F9; obtain ⟨hra1, hrn1, hrc1, hra2, hrn2, hrc2, rfl⟩ := sh_Rat (Ty.fresh_at F9); have F9h := Lib.hid F9; clear F9; (have z15 : w12.heap.size ≤ w15.heap.size := by have := b15.size; (try simp at this); omega); (try (have N0 : Box3 w15 (w12.heap.size) (.bool false) (.slice none 0 0) (.slice none 0 0) := Box3.keep N0 b15)); (try (have n0c0 := N0.c0; have n0c1 := N0.c1; have n0fr := N0.fr; have n0c2 := N0.c2)); (try (have N1 : Box3 w15 (w13.heap.size) (.bool false) (.slice none 0 0) (.slice none 0 0) := Box3.keep N1 b15)); (try (have n1c0 := N1.c0; have n1c1 := N1.c1; have n1fr := N1.fr; have n1c2 := N1.c2)); (try (have N2 : Box3 w15 (w14.heap.size) (.bool false) (.slice none 0 0) (.slice none 0 0) := Box3.new (by simp) b15)); (try (have n2c0 := N2.c0; have n2c1 := N2.c1; have n2fr := N2.fr; have n2c2 := N2.c2))))
    all_goals
      go_wp2_with fail
      go_meet
      first | exact ⟨w15.heap.size, _, _, _, _, _, _, rfl, rfl, mC, More.size (show More w12 w15 from mC), Box3.new rfl (More.refl _), Lib.hid (fresh_after F9h.out (by have s13 := b13.size; (try simp at s13); have s14 := b14.size; (try simp at s14); have s15 := b15.size; (try simp at s15); (try simp) <;> omega) _)⟩ | exact ⟨w12.heap.size, _, _, _, _, _, _, rfl, rfl, Box3.more (show More w12 w15 from mC) (by have s13 := b13.size; (try simp at s13); have s14 := b14.size; (try simp at s14); have s15 := b15.size; (try simp at s15); omega), (by have s13 := b13.size; (try simp at s13); have s14 := b14.size; (try simp at s14); have s15 := b15.size; (try simp at s15); omega), Box3.set N0, Lib.hid (fresh_before F9h.out (by have s13 := b13.size; (try simp at s13); have s14 := b14.size; (try simp at s14); have s15 := b15.size; (try simp at s15); (try simp) <;> omega) (by have s13 := b13.size; (try simp at s13); have s14 := b14.size; (try simp at s14); have s15 := b15.size; (try simp at s15); (try simp) <;> omega) ((((Turns.refl _ _).setCell (.inl (by simp)) _).setCell (.inl (by simp)) _).setCell (.inl (by simp)) _))⟩ | exact ⟨w13.heap.size, _, _, _, _, _, _, rfl, rfl, Box3.more (show More w12 w15 from mC) (by have s13 := b13.size; (try simp at s13); have s14 := b14.size; (try simp at s14); have s15 := b15.size; (try simp at s15); omega), (by have s13 := b13.size; (try simp at s13); have s14 := b14.size; (try simp at s14); have s15 := b15.size; (try simp at s15); omega), Box3.set N1, Lib.hid (fresh_before F9h.out (by have s13 := b13.size; (try simp at s13); have s14 := b14.size; (try simp at s14); have s15 := b15.size; (try simp at s15); (try simp) <;> omega) (by have s13 := b13.size; (try simp at s13); have s14 := b14.size; (try simp at s14); have s15 := b15.size; (try simp at s15); (try simp) <;> omega) ((((Turns.refl _ _).setCell (.inl (by simp)) _).setCell (.inl (by simp)) _).setCell (.inl (by simp)) _))⟩ | exact ⟨w14.heap.size, _, _, _, _, _, _, rfl, rfl, Box3.more (show More w12 w15 from mC) (by have s13 := b13.size; (try simp at s13); have s14 := b14.size; (try simp at s14); have s15 := b15.size; (try simp at s15); omega), (by have s13 := b13.size; (try simp at s13); have s14 := b14.size; (try simp at s14); have s15 := b15.size; (try simp at s15); omega), Box3.set N2, Lib.hid (fresh_before F9h.out (by have s13 := b13.size; (try simp at s13); have s14 := b14.size; (try simp at s14); have s15 := b15.size; (try simp at s15); (try simp) <;> omega) (by have s13 := b13.size; (try simp at s13); have s14 := b14.size; (try simp at s14); have s15 := b15.size; (try simp at s15); (try simp) <;> omega) ((((Turns.refl _ _).setCell (.inl (by simp)) _).setCell (.inl (by simp)) _).setCell (.inl (by simp)) _))⟩
  case rest =>
  rename World => w16
  obtain ⟨nbh, hra1, hrn1, hrc1, hra2, hrn2, hrc2, rfl, rfl, b16, hnh, hBh, hFh⟩ := hcut
  have Fh : tRat.fresh w12.heap.size w16 [.bool r.1.1, .slice hra1 hrn1 hrc1, .slice hra2 hrn2 hrc2] r := by obtain ⟨q1, q2, q3, q4, _⟩ := hFh.out; exact ⟨q1, q2, q3, q4⟩
  clear RHBa0
  clear RHBa1
  clear RHBy
  clear RHBg
  have HBh : ∀ w', More w16 w' → w'.cell? ⟨nbh, 0, none⟩ = some (.bool r.1.1) ∧ w'.cell? ⟨nbh, 1, none⟩ = some (.slice hra1 hrn1 hrc1) ∧ w'.cell? ⟨nbh, 2, none⟩ = some (.slice hra2 hrn2 hrc2) := fun w' h => ⟨(hBh.keep h).c0, (hBh.keep h).c1, (hBh.keep h).c2⟩
  have HBhz := hBh.lt
  have HBa0_16 := HBa0 w16 mC
  have HBa0s16 : W.heap.size < w16.heap.size := by have := More.size (show More w11 w16 from mC); have := HBa0z; omega
  try clear HBa0_15
  try clear HBa0s15
  have HBa1_16 := HBa1 w16 mC
  have HBa1s16 : W.heap.size + 1 < w16.heap.size := by have := More.size (show More w11 w16 from mC); have := HBa1z; omega
  try clear HBa1_15
  try clear HBa1s15
  have HBy_16 := HBy w16 mC
  have HBys16 : nby < w16.heap.size := by have := More.size (show More w11 w16 from mC); have := HByz; omega
  try clear HBy_15
  try clear HBys15
  have HBg_16 := HBg w16 mC
  have HBgs16 : nbg < w16.heap.size := by have := More.size (show More w11 w16 from mC); have := HBgz; omega
  try clear HBg_15
  try clear HBgs15
  have HBh_16 := HBh w16 (More.refl _)
  have HBhs16 := HBhz
  go_wp2_with fail
  refine (laws_eqRat _ _ r _ (Ty.at_more (Ty.fresh_at Fh) mC) (Ty.at_more (Ty.fresh_at Fy) mC) HrL.out).mono ?_
  rintro e w17 ⟨rfl, b17⟩
  have HBa0_17 := HBa0 w17 mC
  have HBa0s17 : W.heap.size < w17.heap.size := by have := More.size (show More w11 w17 from mC); have := HBa0z; omega
  try clear HBa0_16
  try clear HBa0s16
  have HBa1_17 := HBa1 w17 mC
  have HBa1s17 : W.heap.size + 1 < w17.heap.size := by have := More.size (show More w11 w17 from mC); have := HBa1z; omega
  try clear HBa1_16
  try clear HBa1s16
  have HBy_17 := HBy w17 mC
  have HBys17 : nby < w17.heap.size := by have := More.size (show More w11 w17 from mC); have := HByz; omega
  try clear HBy_16
  try clear HBys16
  have HBg_17 := HBg w17 mC
  have HBgs17 : nbg < w17.heap.size := by have := More.size (show More w11 w17 from mC); have := HBgz; omega
  try clear HBg_16
  try clear HBgs16
  have HBh_17 := HBh w17 mC
  have HBhs17 : nbh < w17.heap.size := by have := More.size (show More w16 w17 from mC); have := HBhz; omega
  try clear HBh_16
  try clear HBhs16
  go_wp2_with fail
  refine (laws_heldRat_ _ r _ _ (Ty.at_more (Ty.rd_at (tRat.own_rd M11)) mC) (by decide) (by have := HrC.out; omega) HrL.out).mono ?_
  rintro e w18 ⟨rfl, b18⟩
  have HBa0_18 := HBa0 w18 mC
  have HBa0s18 : W.heap.size < w18.heap.size := by have := More.size (show More w11 w18 from mC); have := HBa0z; omega
  try clear HBa0_17
  try clear HBa0s17
  have HBa1_18 := HBa1 w18 mC
  have HBa1s18 : W.heap.size + 1 < w18.heap.size := by have := More.size (show More w11 w18 from mC); have := HBa1z; omega
  try clear HBa1_17
  try clear HBa1s17
  have HBy_18 := HBy w18 mC
  have HBys18 : nby < w18.heap.size := by have := More.size (show More w11 w18 from mC); have := HByz; omega
  try clear HBy_17
  try clear HBys17
  have HBg_18 := HBg w18 mC
  have HBgs18 : nbg < w18.heap.size := by have := More.size (show More w11 w18 from mC); have := HBgz; omega
  try clear HBg_17
  try clear HBgs17
  have HBh_18 := HBh w18 mC
  have HBhs18 : nbh < w18.heap.size := by have := More.size (show More w16 w18 from mC); have := HBhz; omega
  try clear HBh_17
  try clear HBhs17
  have q18 : ¬ ((1 : Int) + ((cRat r : Nat) : Int) < 0) := by omega
  go_wp2_with fail
  go_ret
  exact ⟨rfl, mC⟩
end Go.Proofs.YteihkhniibncnaaGreat
