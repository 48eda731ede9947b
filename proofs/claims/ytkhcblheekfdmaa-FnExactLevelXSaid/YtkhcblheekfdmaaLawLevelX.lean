/- FnExactLevelX returns true, for every input. -/
import Derived.Test.YtkhcblheekfdmaaLvl
import Derived.Test.YtkhcblheekfdmaaToEdge
import Derived.Test.YtkhcblheekfdmaaGHelp
import Derived.Test.YtkhcblheekfdmaaGMk
import Derived.Test.YtkhcblheekfdmaaCutL
import Derived.Deep.RegionHeld3
namespace Go.Proofs.Ytkhcblheekfdmaa
open Go.RowKit
set_option maxRecDepth 8000 in
set_option maxHeartbeats 12800000 in
theorem law_LevelX {W : World} (ca0 : Array Value) (e : QE) (hv0 : tEdge.at W ca0.toList e) (y : Int) (hi1 : In64 y) :
    Calls Try.prog 12 #[.agg ca0, .int .i64 y] W fun e w' => e = .returned (.bool true) ∧ More W w' := by
  have es0 := sh_Edge hv0
  rw [es0] at hv0
  obtain rfl := arr_of es0
  clear es0
  have HV0 := Lib.hid hv0; clear hv0
  have HI1 := Lib.hid hi1; clear hi1
  obtain ⟨r, er⟩ : ∃ r, r = encR (lvlF e y) := ⟨_, rfl⟩
  have ER := Lib.hid er
  have HrL : Hid (wRat r ≤ 1048576) := Lib.hid (by rw [er]; exact lvlF_len e y)
  clear er
  have HrC : Hid (cRat r ≤ 8388608) := Lib.hid (by have h := cRat_le r; have h2 := HrL.out; omega)
  obtain ⟨f0, ef0⟩ : ∃ f, f = lvlB e y := ⟨_, rfl⟩
  have EF0 := Lib.hid ef0; clear ef0
  have HBa0 : ∀ w', More (W.alloc (.cells #[.int .i64 e.1.1, .int .i64 e.1.2, .int .i64 e.2.1.1, .int .i64 e.2.1.2, .int .i64 e.2.2.1, .bool e.2.2.2] 63)) w' → w'.cell? ⟨W.heap.size, 0, none⟩ = some (.int .i64 e.1.1) ∧ w'.cell? ⟨W.heap.size, 1, none⟩ = some (.int .i64 e.1.2) ∧ w'.cell? ⟨W.heap.size, 2, none⟩ = some (.int .i64 e.2.1.1) ∧ w'.cell? ⟨W.heap.size, 3, none⟩ = some (.int .i64 e.2.1.2) ∧ w'.cell? ⟨W.heap.size, 4, none⟩ = some (.int .i64 e.2.2.1) ∧ w'.cell? ⟨W.heap.size, 5, none⟩ = some (.bool e.2.2.2) := fun w' h => ⟨box_new (by simp) h 0, box_new (by simp) h 1, box_new (by simp) h 2, box_new (by simp) h 3, box_new (by simp) h 4, box_new (by simp) h 5⟩
  go_enter Try.func12, Try.ntmps12
  go_wp2_with fail
  refine (laws_toEdge _ e _ (Ty.at_more HV0.out mC)).mono ?_
  rintro e w1 ⟨rfl, b1⟩
  have HBa0_1 := HBa0 w1 mC
  have HBa0s1 : W.heap.size < w1.heap.size := by have := More.size (show More (W.alloc (.cells #[.int .i64 e.1.1, .int .i64 e.1.2, .int .i64 e.2.1.1, .int .i64 e.2.1.2, .int .i64 e.2.2.1, .bool e.2.2.2] 63)) w1 from mC); simp at this; omega
  go_wp2_with fail
  refine (spec_LevelXL e y _ (edge_in HV0.out).1 (edge_in HV0.out).2).mono ?_
  rintro e w2 ⟨y, rfl, b2, Fy⟩
  rw [← ER.out] at Fy
  rw [← EF0.out]
  obtain ⟨yra1, yrn1, yrc1, yra2, yrn2, yrc2, rfl⟩ := sh_Rat (Ty.fresh_at Fy)
  have HBa0_2 := HBa0 w2 mC
  have HBa0s2 : W.heap.size < w2.heap.size := by have := More.size (show More (W.alloc (.cells #[.int .i64 e.1.1, .int .i64 e.1.2, .int .i64 e.2.1.1, .int .i64 e.2.1.2, .int .i64 e.2.2.1, .bool e.2.2.2] 63)) w2 from mC); simp at this; omega
  try clear HBa0_1
  try clear HBa0s1
  have HBy : ∀ w', More (w2.alloc (.cells #[.bool r.1.1, .slice yra1 yrn1 yrc1, .slice yra2 yrn2 yrc2] 32)) w' → w'.cell? ⟨w2.heap.size, 0, none⟩ = some (.bool r.1.1) ∧ w'.cell? ⟨w2.heap.size, 1, none⟩ = some (.slice yra1 yrn1 yrc1) ∧ w'.cell? ⟨w2.heap.size, 2, none⟩ = some (.slice yra2 yrn2 yrc2) := fun w' h => ⟨box_new (by simp) h 0, box_new (by simp) h 1, box_new (by simp) h 2⟩
  go_wp2_with fail
  refine (laws_toEdge _ e _ (Ty.at_more HV0.out mC)).mono ?_
  rintro e w3 ⟨rfl, b3⟩
  have HBa0_3 := HBa0 w3 mC
  have HBa0s3 : W.heap.size < w3.heap.size := by have := More.size (show More (W.alloc (.cells #[.int .i64 e.1.1, .int .i64 e.1.2, .int .i64 e.2.1.1, .int .i64 e.2.1.2, .int .i64 e.2.2.1, .bool e.2.2.2] 63)) w3 from mC); simp at this; omega
  try clear HBa0_2
  try clear HBa0s2
  have HBy_3 := HBy w3 mC
  have HBys3 : w2.heap.size < w3.heap.size := by have := More.size (show More (w2.alloc (.cells #[.bool r.1.1, .slice yra1 yrn1 yrc1, .slice yra2 yrn2 yrc2] 32)) w3 from mC); simp at this; omega
  try clear HBy_2
  try clear HBys2
  go_wp2_with fail
  refine (impl_LevelXL e y _ (edge_in HV0.out).1 (edge_in HV0.out).2).mono ?_
  rintro e w4 ⟨g, rfl, b4, bg, G, ng, lg⟩
  rw [← ER.out] at G
  rw [← EF0.out]
  obtain ⟨gra1, grn1, grc1, gra2, grn2, grc2, rfl⟩ := sh_Rat (Ty.rd_at (tRat.own_rd G))
  have HBa0_4 := HBa0 w4 mC
  have HBa0s4 : W.heap.size < w4.heap.size := by have := More.size (show More (W.alloc (.cells #[.int .i64 e.1.1, .int .i64 e.1.2, .int .i64 e.2.1.1, .int .i64 e.2.1.2, .int .i64 e.2.2.1, .bool e.2.2.2] 63)) w4 from mC); simp at this; omega
  try clear HBa0_3
  try clear HBa0s3
  have HBy_4 := HBy w4 mC
  have HBys4 : w2.heap.size < w4.heap.size := by have := More.size (show More (w2.alloc (.cells #[.bool r.1.1, .slice yra1 yrn1 yrc1, .slice yra2 yrn2 yrc2] 32)) w4 from mC); simp at this; omega
  try clear HBy_3
  try clear HBys3
  have HBa0ltg : ∀ k ∈ bg, W.heap.size < k := fun k hk => Nat.lt_of_lt_of_le (show W.heap.size < ((W.alloc (.cells #[.int .i64 e.1.1, .int .i64 e.1.2, .int .i64 e.2.1.1, .int .i64 e.2.1.2, .int .i64 e.2.2.1, .bool e.2.2.2] 63))).heap.size from by (simp; try omega)) (Nat.le_trans (More.size (show More ((W.alloc (.cells #[.int .i64 e.1.1, .int .i64 e.1.2, .int .i64 e.2.1.1, .int .i64 e.2.1.2, .int .i64 e.2.2.1, .bool e.2.2.2] 63))) _ from mC)) (lg k hk))
  have HByltg : ∀ k ∈ bg, w2.heap.size < k := fun k hk => Nat.lt_of_lt_of_le (show w2.heap.size < ((w2.alloc (.cells #[.bool r.1.1, .slice yra1 yrn1 yrc1, .slice yra2 yrn2 yrc2] 32))).heap.size from by (simp; try omega)) (Nat.le_trans (More.size (show More ((w2.alloc (.cells #[.bool r.1.1, .slice yra1 yrn1 yrc1, .slice yra2 yrn2 yrc2] 32))) _ from mC)) (lg k hk))
  have HBg : ∀ w', More (w4.alloc (.cells #[.bool r.1.1, .slice gra1 grn1 grc1, .slice gra2 grn2 grc2] 32)) w' → w'.cell? ⟨w4.heap.size, 0, none⟩ = some (.bool r.1.1) ∧ w'.cell? ⟨w4.heap.size, 1, none⟩ = some (.slice gra1 grn1 grc1) ∧ w'.cell? ⟨w4.heap.size, 2, none⟩ = some (.slice gra2 grn2 grc2) := fun w' h => ⟨box_new (by simp) h 0, box_new (by simp) h 1, box_new (by simp) h 2⟩
  have HBggeg : w4.heap.size ≤ w4.heap.size := by have := More.size (show More w4 w4 from mC); omega
  go_wp2_with fail
  refine (laws_eqRat _ _ r _ (Ty.at_more (Ty.rd_at (tRat.own_rd G)) mC) (Ty.at_more (Ty.fresh_at Fy) mC) HrL.out).mono ?_
  rintro e w5 ⟨rfl, b5⟩
  have HBa0_5 := HBa0 w5 mC
  have HBa0s5 : W.heap.size < w5.heap.size := by have := More.size (show More (W.alloc (.cells #[.int .i64 e.1.1, .int .i64 e.1.2, .int .i64 e.2.1.1, .int .i64 e.2.1.2, .int .i64 e.2.2.1, .bool e.2.2.2] 63)) w5 from mC); simp at this; omega
  try clear HBa0_4
  try clear HBa0s4
  have HBy_5 := HBy w5 mC
  have HBys5 : w2.heap.size < w5.heap.size := by have := More.size (show More (w2.alloc (.cells #[.bool r.1.1, .slice yra1 yrn1 yrc1, .slice yra2 yrn2 yrc2] 32)) w5 from mC); simp at this; omega
  try clear HBy_4
  try clear HBys4
  have HBg_5 := HBg w5 mC
  have HBgs5 : w4.heap.size < w5.heap.size := by have := More.size (show More (w4.alloc (.cells #[.bool r.1.1, .slice gra1 grn1 grc1, .slice gra2 grn2 grc2] 32)) w5 from mC); simp at this; omega
  try clear HBg_4
  try clear HBgs4
  go_wp2_with fail
  refine (laws_markRat_ bg _ r _ _ (Ty.own_more G mC) ng (by omega) (by have := HrC.out; omega) HrL.out).mono ?_
  rintro e w6 ⟨rfl, T6, M6⟩
  have HBa0z' : W.heap.size < w6.heap.size := Nat.lt_of_lt_of_le (Nat.lt_of_lt_of_le (show W.heap.size < ((W.alloc (.cells #[.int .i64 e.1.1, .int .i64 e.1.2, .int .i64 e.2.1.1, .int .i64 e.2.1.2, .int .i64 e.2.2.1, .bool e.2.2.2] 63))).heap.size from by (simp; try omega)) (More.size (show More ((W.alloc (.cells #[.int .i64 e.1.1, .int .i64 e.1.2, .int .i64 e.2.1.1, .int .i64 e.2.1.2, .int .i64 e.2.2.1, .bool e.2.2.2] 63))) _ from mC))) T6.size
  have HBa0k : w6.cell? ⟨W.heap.size, 0, none⟩ = some (.int .i64 e.1.1) ∧ w6.cell? ⟨W.heap.size, 1, none⟩ = some (.int .i64 e.1.2) ∧ w6.cell? ⟨W.heap.size, 2, none⟩ = some (.int .i64 e.2.1.1) ∧ w6.cell? ⟨W.heap.size, 3, none⟩ = some (.int .i64 e.2.1.2) ∧ w6.cell? ⟨W.heap.size, 4, none⟩ = some (.int .i64 e.2.2.1) ∧ w6.cell? ⟨W.heap.size, 5, none⟩ = some (.bool e.2.2.2) := ⟨turn_cell T6 (Nat.lt_of_lt_of_le (show W.heap.size < ((W.alloc (.cells #[.int .i64 e.1.1, .int .i64 e.1.2, .int .i64 e.2.1.1, .int .i64 e.2.1.2, .int .i64 e.2.2.1, .bool e.2.2.2] 63))).heap.size from by (simp; try omega)) (More.size (show More ((W.alloc (.cells #[.int .i64 e.1.1, .int .i64 e.1.2, .int .i64 e.2.1.1, .int .i64 e.2.1.2, .int .i64 e.2.2.1, .bool e.2.2.2] 63))) _ from mC))) (fun h => by have h1 := HBa0ltg _ h; omega) (HBa0 _ mC).1, turn_cell T6 (Nat.lt_of_lt_of_le (show W.heap.size < ((W.alloc (.cells #[.int .i64 e.1.1, .int .i64 e.1.2, .int .i64 e.2.1.1, .int .i64 e.2.1.2, .int .i64 e.2.2.1, .bool e.2.2.2] 63))).heap.size from by (simp; try omega)) (More.size (show More ((W.alloc (.cells #[.int .i64 e.1.1, .int .i64 e.1.2, .int .i64 e.2.1.1, .int .i64 e.2.1.2, .int .i64 e.2.2.1, .bool e.2.2.2] 63))) _ from mC))) (fun h => by have h1 := HBa0ltg _ h; omega) (HBa0 _ mC).2.1, turn_cell T6 (Nat.lt_of_lt_of_le (show W.heap.size < ((W.alloc (.cells #[.int .i64 e.1.1, .int .i64 e.1.2, .int .i64 e.2.1.1, .int .i64 e.2.1.2, .int .i64 e.2.2.1, .bool e.2.2.2] 63))).heap.size from by (simp; try omega)) (More.size (show More ((W.alloc (.cells #[.int .i64 e.1.1, .int .i64 e.1.2, .int .i64 e.2.1.1, .int .i64 e.2.1.2, .int .i64 e.2.2.1, .bool e.2.2.2] 63))) _ from mC))) (fun h => by have h1 := HBa0ltg _ h; omega) (HBa0 _ mC).2.2.1, turn_cell T6 (Nat.lt_of_lt_of_le (show W.heap.size < ((W.alloc (.cells #[.int .i64 e.1.1, .int .i64 e.1.2, .int .i64 e.2.1.1, .int .i64 e.2.1.2, .int .i64 e.2.2.1, .bool e.2.2.2] 63))).heap.size from by (simp; try omega)) (More.size (show More ((W.alloc (.cells #[.int .i64 e.1.1, .int .i64 e.1.2, .int .i64 e.2.1.1, .int .i64 e.2.1.2, .int .i64 e.2.2.1, .bool e.2.2.2] 63))) _ from mC))) (fun h => by have h1 := HBa0ltg _ h; omega) (HBa0 _ mC).2.2.2.1, turn_cell T6 (Nat.lt_of_lt_of_le (show W.heap.size < ((W.alloc (.cells #[.int .i64 e.1.1, .int .i64 e.1.2, .int .i64 e.2.1.1, .int .i64 e.2.1.2, .int .i64 e.2.2.1, .bool e.2.2.2] 63))).heap.size from by (simp; try omega)) (More.size (show More ((W.alloc (.cells #[.int .i64 e.1.1, .int .i64 e.1.2, .int .i64 e.2.1.1, .int .i64 e.2.1.2, .int .i64 e.2.2.1, .bool e.2.2.2] 63))) _ from mC))) (fun h => by have h1 := HBa0ltg _ h; omega) (HBa0 _ mC).2.2.2.2.1, turn_cell T6 (Nat.lt_of_lt_of_le (show W.heap.size < ((W.alloc (.cells #[.int .i64 e.1.1, .int .i64 e.1.2, .int .i64 e.2.1.1, .int .i64 e.2.1.2, .int .i64 e.2.2.1, .bool e.2.2.2] 63))).heap.size from by (simp; try omega)) (More.size (show More ((W.alloc (.cells #[.int .i64 e.1.1, .int .i64 e.1.2, .int .i64 e.2.1.1, .int .i64 e.2.1.2, .int .i64 e.2.2.1, .bool e.2.2.2] 63))) _ from mC))) (fun h => by have h1 := HBa0ltg _ h; omega) (HBa0 _ mC).2.2.2.2.2⟩
  have HByz' : w2.heap.size < w6.heap.size := Nat.lt_of_lt_of_le (Nat.lt_of_lt_of_le (show w2.heap.size < ((w2.alloc (.cells #[.bool r.1.1, .slice yra1 yrn1 yrc1, .slice yra2 yrn2 yrc2] 32))).heap.size from by (simp; try omega)) (More.size (show More ((w2.alloc (.cells #[.bool r.1.1, .slice yra1 yrn1 yrc1, .slice yra2 yrn2 yrc2] 32))) _ from mC))) T6.size
  have HByk : w6.cell? ⟨w2.heap.size, 0, none⟩ = some (.bool r.1.1) ∧ w6.cell? ⟨w2.heap.size, 1, none⟩ = some (.slice yra1 yrn1 yrc1) ∧ w6.cell? ⟨w2.heap.size, 2, none⟩ = some (.slice yra2 yrn2 yrc2) := ⟨turn_cell T6 (Nat.lt_of_lt_of_le (show w2.heap.size < ((w2.alloc (.cells #[.bool r.1.1, .slice yra1 yrn1 yrc1, .slice yra2 yrn2 yrc2] 32))).heap.size from by (simp; try omega)) (More.size (show More ((w2.alloc (.cells #[.bool r.1.1, .slice yra1 yrn1 yrc1, .slice yra2 yrn2 yrc2] 32))) _ from mC))) (fun h => by have h1 := HByltg _ h; omega) (HBy _ mC).1, turn_cell T6 (Nat.lt_of_lt_of_le (show w2.heap.size < ((w2.alloc (.cells #[.bool r.1.1, .slice yra1 yrn1 yrc1, .slice yra2 yrn2 yrc2] 32))).heap.size from by (simp; try omega)) (More.size (show More ((w2.alloc (.cells #[.bool r.1.1, .slice yra1 yrn1 yrc1, .slice yra2 yrn2 yrc2] 32))) _ from mC))) (fun h => by have h1 := HByltg _ h; omega) (HBy _ mC).2.1, turn_cell T6 (Nat.lt_of_lt_of_le (show w2.heap.size < ((w2.alloc (.cells #[.bool r.1.1, .slice yra1 yrn1 yrc1, .slice yra2 yrn2 yrc2] 32))).heap.size from by (simp; try omega)) (More.size (show More ((w2.alloc (.cells #[.bool r.1.1, .slice yra1 yrn1 yrc1, .slice yra2 yrn2 yrc2] 32))) _ from mC))) (fun h => by have h1 := HByltg _ h; omega) (HBy _ mC).2.2⟩
  have HBgz' : w4.heap.size < w6.heap.size := Nat.lt_of_lt_of_le (Nat.lt_of_lt_of_le (show w4.heap.size < ((w4.alloc (.cells #[.bool r.1.1, .slice gra1 grn1 grc1, .slice gra2 grn2 grc2] 32))).heap.size from by (simp; try omega)) (More.size (show More ((w4.alloc (.cells #[.bool r.1.1, .slice gra1 grn1 grc1, .slice gra2 grn2 grc2] 32))) _ from mC))) T6.size
  have HBgk : w6.cell? ⟨w4.heap.size, 0, none⟩ = some (.bool r.1.1) ∧ w6.cell? ⟨w4.heap.size, 1, none⟩ = some (.slice gra1 grn1 grc1) ∧ w6.cell? ⟨w4.heap.size, 2, none⟩ = some (.slice gra2 grn2 grc2) := ⟨turn_cell T6 (Nat.lt_of_lt_of_le (show w4.heap.size < ((w4.alloc (.cells #[.bool r.1.1, .slice gra1 grn1 grc1, .slice gra2 grn2 grc2] 32))).heap.size from by (simp; try omega)) (More.size (show More ((w4.alloc (.cells #[.bool r.1.1, .slice gra1 grn1 grc1, .slice gra2 grn2 grc2] 32))) _ from mC))) (fun h => by have h1 := HBggeg; have h2 := tRat.own_lt G _ h; omega) (HBg _ mC).1, turn_cell T6 (Nat.lt_of_lt_of_le (show w4.heap.size < ((w4.alloc (.cells #[.bool r.1.1, .slice gra1 grn1 grc1, .slice gra2 grn2 grc2] 32))).heap.size from by (simp; try omega)) (More.size (show More ((w4.alloc (.cells #[.bool r.1.1, .slice gra1 grn1 grc1, .slice gra2 grn2 grc2] 32))) _ from mC))) (fun h => by have h1 := HBggeg; have h2 := tRat.own_lt G _ h; omega) (HBg _ mC).2.1, turn_cell T6 (Nat.lt_of_lt_of_le (show w4.heap.size < ((w4.alloc (.cells #[.bool r.1.1, .slice gra1 grn1 grc1, .slice gra2 grn2 grc2] 32))).heap.size from by (simp; try omega)) (More.size (show More ((w4.alloc (.cells #[.bool r.1.1, .slice gra1 grn1 grc1, .slice gra2 grn2 grc2] 32))) _ from mC))) (fun h => by have h1 := HBggeg; have h2 := tRat.own_lt G _ h; omega) (HBg _ mC).2.2⟩
  have b6 := More.turn (b4.trans mC) T6 lg
  try clear HBa0_5
  try clear HBa0s5
  clear HBa0
  have HBa0 : ∀ w', More w6 w' → w'.cell? ⟨W.heap.size, 0, none⟩ = some (.int .i64 e.1.1) ∧ w'.cell? ⟨W.heap.size, 1, none⟩ = some (.int .i64 e.1.2) ∧ w'.cell? ⟨W.heap.size, 2, none⟩ = some (.int .i64 e.2.1.1) ∧ w'.cell? ⟨W.heap.size, 3, none⟩ = some (.int .i64 e.2.1.2) ∧ w'.cell? ⟨W.heap.size, 4, none⟩ = some (.int .i64 e.2.2.1) ∧ w'.cell? ⟨W.heap.size, 5, none⟩ = some (.bool e.2.2.2) := fun w' h => ⟨box_keep h HBa0z' (HBa0k.1), box_keep h HBa0z' (HBa0k.2.1), box_keep h HBa0z' (HBa0k.2.2.1), box_keep h HBa0z' (HBa0k.2.2.2.1), box_keep h HBa0z' (HBa0k.2.2.2.2.1), box_keep h HBa0z' (HBa0k.2.2.2.2.2)⟩
  try clear HBa0z
  have HBa0z := HBa0z'; clear HBa0z' HBa0k
  have HBa0_6 := HBa0 w6 (More.refl _)
  have HBa0s6 := HBa0z
  try clear HBy_5
  try clear HBys5
  clear HBy
  have HBy : ∀ w', More w6 w' → w'.cell? ⟨w2.heap.size, 0, none⟩ = some (.bool r.1.1) ∧ w'.cell? ⟨w2.heap.size, 1, none⟩ = some (.slice yra1 yrn1 yrc1) ∧ w'.cell? ⟨w2.heap.size, 2, none⟩ = some (.slice yra2 yrn2 yrc2) := fun w' h => ⟨box_keep h HByz' (HByk.1), box_keep h HByz' (HByk.2.1), box_keep h HByz' (HByk.2.2)⟩
  try clear HByz
  have HByz := HByz'; clear HByz' HByk
  have HBy_6 := HBy w6 (More.refl _)
  have HBys6 := HByz
  try clear HBg_5
  try clear HBgs5
  clear HBg
  have HBg : ∀ w', More w6 w' → w'.cell? ⟨w4.heap.size, 0, none⟩ = some (.bool r.1.1) ∧ w'.cell? ⟨w4.heap.size, 1, none⟩ = some (.slice gra1 grn1 grc1) ∧ w'.cell? ⟨w4.heap.size, 2, none⟩ = some (.slice gra2 grn2 grc2) := fun w' h => ⟨box_keep h HBgz' (HBgk.1), box_keep h HBgz' (HBgk.2.1), box_keep h HBgz' (HBgk.2.2)⟩
  try clear HBgz
  have HBgz := HBgz'; clear HBgz' HBgk
  have HBg_6 := HBg w6 (More.refl _)
  have HBgs6 := HBgz
  go_wp2_with fail
  refine (laws_heldRat_ _ r _ _ (Ty.at_more (Ty.rd_at (tRat.own_rd M6)) mC) (by decide) (by have := HrC.out; omega) HrL.out).mono ?_
  rintro e w7 ⟨rfl, b7⟩
  have HBa0_7 := HBa0 w7 mC
  have HBa0s7 : W.heap.size < w7.heap.size := by have := More.size (show More w6 w7 from mC); have := HBa0z; omega
  try clear HBa0_6
  try clear HBa0s6
  have HBy_7 := HBy w7 mC
  have HBys7 : w2.heap.size < w7.heap.size := by have := More.size (show More w6 w7 from mC); have := HByz; omega
  try clear HBy_6
  try clear HBys6
  have HBg_7 := HBg w7 mC
  have HBgs7 : w4.heap.size < w7.heap.size := by have := More.size (show More w6 w7 from mC); have := HBgz; omega
  try clear HBg_6
  try clear HBgs6
  have q7 : ¬ ((1 : Int) + ((cRat r : Nat) : Int) < 0) := by omega
  go_wp2_with fail
  refine (laws_toEdge _ e _ (Ty.at_more HV0.out mC)).mono ?_
  rintro e w8 ⟨rfl, b8⟩
  have HBa0_8 := HBa0 w8 mC
  have HBa0s8 : W.heap.size < w8.heap.size := by have := More.size (show More w6 w8 from mC); have := HBa0z; omega
  try clear HBa0_7
  try clear HBa0s7
  have HBy_8 := HBy w8 mC
  have HBys8 : w2.heap.size < w8.heap.size := by have := More.size (show More w6 w8 from mC); have := HByz; omega
  try clear HBy_7
  try clear HBys7
  have HBg_8 := HBg w8 mC
  have HBgs8 : w4.heap.size < w8.heap.size := by have := More.size (show More w6 w8 from mC); have := HBgz; omega
  try clear HBg_7
  try clear HBgs7
  go_wp2_with fail
  refine (impl_LevelXL e y _ (edge_in HV0.out).1 (edge_in HV0.out).2).mono ?_
  rintro e w9 ⟨h, rfl, b9, Fh⟩
  rw [← ER.out] at Fh
  rw [← EF0.out]
  obtain ⟨hra1, hrn1, hrc1, hra2, hrn2, hrc2, rfl⟩ := sh_Rat (Ty.fresh_at Fh)
  have HBa0_9 := HBa0 w9 mC
  have HBa0s9 : W.heap.size < w9.heap.size := by have := More.size (show More w6 w9 from mC); have := HBa0z; omega
  try clear HBa0_8
  try clear HBa0s8
  have HBy_9 := HBy w9 mC
  have HBys9 : w2.heap.size < w9.heap.size := by have := More.size (show More w6 w9 from mC); have := HByz; omega
  try clear HBy_8
  try clear HBys8
  have HBg_9 := HBg w9 mC
  have HBgs9 : w4.heap.size < w9.heap.size := by have := More.size (show More w6 w9 from mC); have := HBgz; omega
  try clear HBg_8
  try clear HBgs8
  have HBh : ∀ w', More (w9.alloc (.cells #[.bool r.1.1, .slice hra1 hrn1 hrc1, .slice hra2 hrn2 hrc2] 32)) w' → w'.cell? ⟨w9.heap.size, 0, none⟩ = some (.bool r.1.1) ∧ w'.cell? ⟨w9.heap.size, 1, none⟩ = some (.slice hra1 hrn1 hrc1) ∧ w'.cell? ⟨w9.heap.size, 2, none⟩ = some (.slice hra2 hrn2 hrc2) := fun w' h => ⟨box_new (by simp) h 0, box_new (by simp) h 1, box_new (by simp) h 2⟩
  go_wp2_with fail
  refine (laws_eqRat _ _ r _ (Ty.at_more (Ty.fresh_at Fh) mC) (Ty.at_more (Ty.fresh_at Fy) mC) HrL.out).mono ?_
  rintro e w10 ⟨rfl, b10⟩
  have HBa0_10 := HBa0 w10 mC
  have HBa0s10 : W.heap.size < w10.heap.size := by have := More.size (show More w6 w10 from mC); have := HBa0z; omega
  try clear HBa0_9
  try clear HBa0s9
  have HBy_10 := HBy w10 mC
  have HBys10 : w2.heap.size < w10.heap.size := by have := More.size (show More w6 w10 from mC); have := HByz; omega
  try clear HBy_9
  try clear HBys9
  have HBg_10 := HBg w10 mC
  have HBgs10 : w4.heap.size < w10.heap.size := by have := More.size (show More w6 w10 from mC); have := HBgz; omega
  try clear HBg_9
  try clear HBgs9
  have HBh_10 := HBh w10 mC
  have HBhs10 : w9.heap.size < w10.heap.size := by have := More.size (show More (w9.alloc (.cells #[.bool r.1.1, .slice hra1 hrn1 hrc1, .slice hra2 hrn2 hrc2] 32)) w10 from mC); simp at this; omega
  try clear HBh_9
  try clear HBhs9
  go_wp2_with fail
  refine (laws_heldRat_ _ r _ _ (Ty.at_more (Ty.rd_at (tRat.own_rd M6)) mC) (by decide) (by have := HrC.out; omega) HrL.out).mono ?_
  rintro e w11 ⟨rfl, b11⟩
  have HBa0_11 := HBa0 w11 mC
  have HBa0s11 : W.heap.size < w11.heap.size := by have := More.size (show More w6 w11 from mC); have := HBa0z; omega
  try clear HBa0_10
  try clear HBa0s10
  have HBy_11 := HBy w11 mC
  have HBys11 : w2.heap.size < w11.heap.size := by have := More.size (show More w6 w11 from mC); have := HByz; omega
  try clear HBy_10
  try clear HBys10
  have HBg_11 := HBg w11 mC
  have HBgs11 : w4.heap.size < w11.heap.size := by have := More.size (show More w6 w11 from mC); have := HBgz; omega
  try clear HBg_10
  try clear HBgs10
  have HBh_11 := HBh w11 mC
  have HBhs11 : w9.heap.size < w11.heap.size := by have := More.size (show More (w9.alloc (.cells #[.bool r.1.1, .slice hra1 hrn1 hrc1, .slice hra2 hrn2 hrc2] 32)) w11 from mC); simp at this; omega
  try clear HBh_10
  try clear HBhs10
  have q11 : ¬ ((1 : Int) + ((cRat r : Nat) : Int) < 0) := by omega
  go_wp2_with fail
  go_ret
  exact ⟨rfl, mC⟩
end Go.Proofs.Ytkhcblheekfdmaa
