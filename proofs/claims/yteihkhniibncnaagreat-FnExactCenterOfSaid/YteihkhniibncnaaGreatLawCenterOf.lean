/- FnExactCenterOf returns true, for every input. -/
import Derived.Test.YteihkhniibncnaaGreatCtr
import Derived.Test.YteihkhniibncnaaGreatSzCell
import Derived.Test.YteihkhniibncnaaGreatToCell
import Derived.Test.YteihkhniibncnaaGreatEqCell
import Derived.Test.YteihkhniibncnaaGreatMkCell
import Derived.Test.YteihkhniibncnaaGreatEqPoint
import Derived.Test.YteihkhniibncnaaGreatMkPoint
import Derived.Test.YteihkhniibncnaaGreatLdm
import Derived.Deep.RegionHeld3
namespace Go.Proofs.YteihkhniibncnaaGreat
open Go.RowKit
set_option maxRecDepth 8000 in
set_option maxHeartbeats 12800000 in
theorem law_CenterOf {W : World} (ca0 : Array Value) (x : QCell) (hv0 : tCell.at W ca0.toList x) :
    Calls Tryz.prog 5 #[.agg ca0] W fun e w' => e = .returned (.bool true) ∧ More W w' := by
  obtain ⟨s0a1, s0n1, s0c1, s0a2, s0n2, s0c2, s0a4, s0n4, s0c4, s0a5, s0n5, s0c5, s0a7, s0n7, s0c7, s0a8, s0n8, s0c8, s0a10, s0n10, s0c10, s0a11, s0n11, s0c11, s0a13, s0n13, s0c13, s0a14, s0n14, s0c14, s0a16, s0n16, s0c16, s0a17, s0n17, s0c17, es0⟩ := sh_Cell hv0
  rw [es0] at hv0
  obtain rfl := arr_of es0
  clear es0
  have HV0 := Lib.hid hv0; clear hv0
  by_cases hn0 : ((wCell x : Nat) : Int) ≤ 1048576
  rotate_left
  · have Hbad := Lib.hid hn0; clear hn0
    have HBa0 : ∀ w', More (W.alloc (.cells #[.bool x.1.1.1, .slice s0a1 s0n1 s0c1, .slice s0a2 s0n2 s0c2, .bool x.2.1.1.1, .slice s0a4 s0n4 s0c4, .slice s0a5 s0n5 s0c5, .bool x.2.2.1.1.1, .slice s0a7 s0n7 s0c7, .slice s0a8 s0n8 s0c8, .bool x.2.2.2.1.1.1, .slice s0a10 s0n10 s0c10, .slice s0a11 s0n11 s0c11, .bool x.2.2.2.2.1.1.1, .slice s0a13 s0n13 s0c13, .slice s0a14 s0n14 s0c14, .bool x.2.2.2.2.2.1.1, .slice s0a16 s0n16 s0c16, .slice s0a17 s0n17 s0c17] 58)) w' → w'.rangeAt (W.heap.size) 0 [.bool x.1.1.1, .slice s0a1 s0n1 s0c1, .slice s0a2 s0n2 s0c2, .bool x.2.1.1.1, .slice s0a4 s0n4 s0c4, .slice s0a5 s0n5 s0c5, .bool x.2.2.1.1.1, .slice s0a7 s0n7 s0c7, .slice s0a8 s0n8 s0c8, .bool x.2.2.2.1.1.1, .slice s0a10 s0n10 s0c10, .slice s0a11 s0n11 s0c11, .bool x.2.2.2.2.1.1.1, .slice s0a13 s0n13 s0c13, .slice s0a14 s0n14 s0c14, .bool x.2.2.2.2.2.1.1, .slice s0a16 s0n16 s0c16, .slice s0a17 s0n17 s0c17] := fun w' h => box_range (by simp) h
    go_enter Tryz.func5, Tryz.ntmps5
    go_wp2_with (first | (refine wpList_load_mid rfl _ _ rfl (W.heap.size) 0 rfl _ _ (HBa0 _ mC) Tryz.underlying58 rfl (by kernel_rfl) ?_))
    refine (laws_szCell _ x _ _ (Ty.at_more HV0.out mC) (by decide) (by decide)).mono ?_
    rintro e w1 ⟨rfl, b1⟩
    have HBa0_1 := HBa0 w1 mC
    have HBa0s1 : W.heap.size < w1.heap.size := by have := More.size (show More (W.alloc (.cells #[.bool x.1.1.1, .slice s0a1 s0n1 s0c1, .slice s0a2 s0n2 s0c2, .bool x.2.1.1.1, .slice s0a4 s0n4 s0c4, .slice s0a5 s0n5 s0c5, .bool x.2.2.1.1.1, .slice s0a7 s0n7 s0c7, .slice s0a8 s0n8 s0c8, .bool x.2.2.2.1.1.1, .slice s0a10 s0n10 s0c10, .slice s0a11 s0n11 s0c11, .bool x.2.2.2.2.1.1.1, .slice s0a13 s0n13 s0c13, .slice s0a14 s0n14 s0c14, .bool x.2.2.2.2.2.1.1, .slice s0a16 s0n16 s0c16, .slice s0a17 s0n17 s0c17] 58)) w1 from mC); simp at this; omega
    rw [szI_neg (by have := Hbad.out; omega)]
    go_wp2_with (first | (refine wpList_load_mid rfl _ _ rfl (W.heap.size) 0 rfl _ _ (HBa0 _ mC) Tryz.underlying58 rfl (by kernel_rfl) ?_))
    go_ret
    exact ⟨rfl, mC⟩
  have Hn0 := Lib.hid hn0
  have Hs0 : Hid (wCell x ≤ 1048576) := Lib.hid (by omega)
  clear hn0
  obtain ⟨r, er⟩ : ∃ r, r = ctrP x := ⟨_, rfl⟩
  have ER := Lib.hid er
  have HrL : Hid (wPoint r ≤ 1048576) := Lib.hid (by rw [er]; exact ctrP_len x)
  clear er
  have HrC : Hid (cPoint r ≤ 8388608) := Lib.hid (by have h := cPoint_le r; have h2 := HrL.out; omega)
  have HC0 : Hid (cCell x ≤ 8388608) := Lib.hid (by have h := cCell_le x; have h2 := Hs0.out; omega)
  have HBa0 : ∀ w', More (W.alloc (.cells #[.bool x.1.1.1, .slice s0a1 s0n1 s0c1, .slice s0a2 s0n2 s0c2, .bool x.2.1.1.1, .slice s0a4 s0n4 s0c4, .slice s0a5 s0n5 s0c5, .bool x.2.2.1.1.1, .slice s0a7 s0n7 s0c7, .slice s0a8 s0n8 s0c8, .bool x.2.2.2.1.1.1, .slice s0a10 s0n10 s0c10, .slice s0a11 s0n11 s0c11, .bool x.2.2.2.2.1.1.1, .slice s0a13 s0n13 s0c13, .slice s0a14 s0n14 s0c14, .bool x.2.2.2.2.2.1.1, .slice s0a16 s0n16 s0c16, .slice s0a17 s0n17 s0c17] 58)) w' → w'.rangeAt (W.heap.size) 0 [.bool x.1.1.1, .slice s0a1 s0n1 s0c1, .slice s0a2 s0n2 s0c2, .bool x.2.1.1.1, .slice s0a4 s0n4 s0c4, .slice s0a5 s0n5 s0c5, .bool x.2.2.1.1.1, .slice s0a7 s0n7 s0c7, .slice s0a8 s0n8 s0c8, .bool x.2.2.2.1.1.1, .slice s0a10 s0n10 s0c10, .slice s0a11 s0n11 s0c11, .bool x.2.2.2.2.1.1.1, .slice s0a13 s0n13 s0c13, .slice s0a14 s0n14 s0c14, .bool x.2.2.2.2.2.1.1, .slice s0a16 s0n16 s0c16, .slice s0a17 s0n17 s0c17] := fun w' h => box_range (by simp) h
  go_enter Tryz.func5, Tryz.ntmps5
  go_wp2_with (first | (refine wpList_load_mid rfl _ _ rfl (W.heap.size) 0 rfl _ _ (HBa0 _ mC) Tryz.underlying58 rfl (by kernel_rfl) ?_))
  refine (laws_szCell _ x _ _ (Ty.at_more HV0.out mC) (by decide) (by decide)).mono ?_
  rintro e w1 ⟨rfl, b1⟩
  have HBa0_1 := HBa0 w1 mC
  have HBa0s1 : W.heap.size < w1.heap.size := by have := More.size (show More (W.alloc (.cells #[.bool x.1.1.1, .slice s0a1 s0n1 s0c1, .slice s0a2 s0n2 s0c2, .bool x.2.1.1.1, .slice s0a4 s0n4 s0c4, .slice s0a5 s0n5 s0c5, .bool x.2.2.1.1.1, .slice s0a7 s0n7 s0c7, .slice s0a8 s0n8 s0c8, .bool x.2.2.2.1.1.1, .slice s0a10 s0n10 s0c10, .slice s0a11 s0n11 s0c11, .bool x.2.2.2.2.1.1.1, .slice s0a13 s0n13 s0c13, .slice s0a14 s0n14 s0c14, .bool x.2.2.2.2.2.1.1, .slice s0a16 s0n16 s0c16, .slice s0a17 s0n17 s0c17] 58)) w1 from mC); simp at this; omega
  rw [szI_pos (by have := Hn0.out; omega)]
  have z0 : 0 ≤ (1048576 : Int) - (wCell x : Nat) := by have := Hn0.out; omega
  go_wp2_with (first | (refine wpList_load_mid rfl _ _ rfl (W.heap.size) 0 rfl _ _ (HBa0 _ mC) Tryz.underlying58 rfl (by kernel_rfl) ?_))
  refine (laws_toCell _ x _ (Ty.at_more HV0.out mC) Hs0.out).mono ?_
  rintro e w2 ⟨c0, rfl, b2, Fc0⟩
  have HBa0_2 := HBa0 w2 mC
  have HBa0s2 : W.heap.size < w2.heap.size := by have := More.size (show More (W.alloc (.cells #[.bool x.1.1.1, .slice s0a1 s0n1 s0c1, .slice s0a2 s0n2 s0c2, .bool x.2.1.1.1, .slice s0a4 s0n4 s0c4, .slice s0a5 s0n5 s0c5, .bool x.2.2.1.1.1, .slice s0a7 s0n7 s0c7, .slice s0a8 s0n8 s0c8, .bool x.2.2.2.1.1.1, .slice s0a10 s0n10 s0c10, .slice s0a11 s0n11 s0c11, .bool x.2.2.2.2.1.1.1, .slice s0a13 s0n13 s0c13, .slice s0a14 s0n14 s0c14, .bool x.2.2.2.2.2.1.1, .slice s0a16 s0n16 s0c16, .slice s0a17 s0n17 s0c17] 58)) w2 from mC); simp at this; omega
  try clear HBa0_1
  try clear HBa0s1
  obtain ⟨c0za1, c0zn1, c0zc1, c0za2, c0zn2, c0zc2, c0za4, c0zn4, c0zc4, c0za5, c0zn5, c0zc5, c0za7, c0zn7, c0zc7, c0za8, c0zn8, c0zc8, c0za10, c0zn10, c0zc10, c0za11, c0zn11, c0zc11, c0za13, c0zn13, c0zc13, c0za14, c0zn14, c0zc14, c0za16, c0zn16, c0zc16, c0za17, c0zn17, c0zc17, rfl⟩ := sh_Cell (Ty.fresh_at Fc0)
  go_wp2_with (first | (refine wpList_load_mid rfl _ _ rfl (W.heap.size) 0 rfl _ _ (HBa0 _ mC) Tryz.underlying58 rfl (by kernel_rfl) ?_))
  refine (spec_CenterOfL _ x _ (Ty.at_more (Ty.fresh_at Fc0) mC) Hs0.out).mono ?_
  rintro e w3 ⟨y, rfl, b3, Fy⟩
  rw [← ER.out] at Fy
  obtain ⟨yra1, yrn1, yrc1, yra2, yrn2, yrc2, yra4, yrn4, yrc4, yra5, yrn5, yrc5, rfl⟩ := sh_Point (Ty.fresh_at Fy)
  have HBa0_3 := HBa0 w3 mC
  have HBa0s3 : W.heap.size < w3.heap.size := by have := More.size (show More (W.alloc (.cells #[.bool x.1.1.1, .slice s0a1 s0n1 s0c1, .slice s0a2 s0n2 s0c2, .bool x.2.1.1.1, .slice s0a4 s0n4 s0c4, .slice s0a5 s0n5 s0c5, .bool x.2.2.1.1.1, .slice s0a7 s0n7 s0c7, .slice s0a8 s0n8 s0c8, .bool x.2.2.2.1.1.1, .slice s0a10 s0n10 s0c10, .slice s0a11 s0n11 s0c11, .bool x.2.2.2.2.1.1.1, .slice s0a13 s0n13 s0c13, .slice s0a14 s0n14 s0c14, .bool x.2.2.2.2.2.1.1, .slice s0a16 s0n16 s0c16, .slice s0a17 s0n17 s0c17] 58)) w3 from mC); simp at this; omega
  try clear HBa0_2
  try clear HBa0s2
  have HBy : ∀ w', More (w3.alloc (.cells #[.bool r.1.1.1, .slice yra1 yrn1 yrc1, .slice yra2 yrn2 yrc2, .bool r.2.1.1, .slice yra4 yrn4 yrc4, .slice yra5 yrn5 yrc5] 47)) w' → w'.cell? ⟨w3.heap.size, 0, none⟩ = some (.bool r.1.1.1) ∧ w'.cell? ⟨w3.heap.size, 1, none⟩ = some (.slice yra1 yrn1 yrc1) ∧ w'.cell? ⟨w3.heap.size, 2, none⟩ = some (.slice yra2 yrn2 yrc2) ∧ w'.cell? ⟨w3.heap.size, 3, none⟩ = some (.bool r.2.1.1) ∧ w'.cell? ⟨w3.heap.size, 4, none⟩ = some (.slice yra4 yrn4 yrc4) ∧ w'.cell? ⟨w3.heap.size, 5, none⟩ = some (.slice yra5 yrn5 yrc5) := fun w' h => ⟨box_new (by simp) h 0, box_new (by simp) h 1, box_new (by simp) h 2, box_new (by simp) h 3, box_new (by simp) h 4, box_new (by simp) h 5⟩
  go_wp2_with (first | (refine wpList_load_mid rfl _ _ rfl (W.heap.size) 0 rfl _ _ (HBa0 _ mC) Tryz.underlying58 rfl (by kernel_rfl) ?_))
  refine (laws_toCell _ x _ (Ty.at_more HV0.out mC) Hs0.out).mono ?_
  rintro e w4 ⟨x0, rfl, b4, bx0, X0, nx0, lx0⟩
  have HBa0ltx0 : ∀ k ∈ bx0, W.heap.size < k := fun k hk => Nat.lt_of_lt_of_le (show W.heap.size < ((W.alloc (.cells #[.bool x.1.1.1, .slice s0a1 s0n1 s0c1, .slice s0a2 s0n2 s0c2, .bool x.2.1.1.1, .slice s0a4 s0n4 s0c4, .slice s0a5 s0n5 s0c5, .bool x.2.2.1.1.1, .slice s0a7 s0n7 s0c7, .slice s0a8 s0n8 s0c8, .bool x.2.2.2.1.1.1, .slice s0a10 s0n10 s0c10, .slice s0a11 s0n11 s0c11, .bool x.2.2.2.2.1.1.1, .slice s0a13 s0n13 s0c13, .slice s0a14 s0n14 s0c14, .bool x.2.2.2.2.2.1.1, .slice s0a16 s0n16 s0c16, .slice s0a17 s0n17 s0c17] 58))).heap.size from by simp) (Nat.le_trans (More.size (show More ((W.alloc (.cells #[.bool x.1.1.1, .slice s0a1 s0n1 s0c1, .slice s0a2 s0n2 s0c2, .bool x.2.1.1.1, .slice s0a4 s0n4 s0c4, .slice s0a5 s0n5 s0c5, .bool x.2.2.1.1.1, .slice s0a7 s0n7 s0c7, .slice s0a8 s0n8 s0c8, .bool x.2.2.2.1.1.1, .slice s0a10 s0n10 s0c10, .slice s0a11 s0n11 s0c11, .bool x.2.2.2.2.1.1.1, .slice s0a13 s0n13 s0c13, .slice s0a14 s0n14 s0c14, .bool x.2.2.2.2.2.1.1, .slice s0a16 s0n16 s0c16, .slice s0a17 s0n17 s0c17] 58))) _ from mC)) (lx0 k hk))
  have HByltx0 : ∀ k ∈ bx0, w3.heap.size < k := fun k hk => Nat.lt_of_lt_of_le (show w3.heap.size < ((w3.alloc (.cells #[.bool r.1.1.1, .slice yra1 yrn1 yrc1, .slice yra2 yrn2 yrc2, .bool r.2.1.1, .slice yra4 yrn4 yrc4, .slice yra5 yrn5 yrc5] 47))).heap.size from by simp) (Nat.le_trans (More.size (show More ((w3.alloc (.cells #[.bool r.1.1.1, .slice yra1 yrn1 yrc1, .slice yra2 yrn2 yrc2, .bool r.2.1.1, .slice yra4 yrn4 yrc4, .slice yra5 yrn5 yrc5] 47))) _ from mC)) (lx0 k hk))
  obtain ⟨x0za1, x0zn1, x0zc1, x0za2, x0zn2, x0zc2, x0za4, x0zn4, x0zc4, x0za5, x0zn5, x0zc5, x0za7, x0zn7, x0zc7, x0za8, x0zn8, x0zc8, x0za10, x0zn10, x0zc10, x0za11, x0zn11, x0zc11, x0za13, x0zn13, x0zc13, x0za14, x0zn14, x0zc14, x0za16, x0zn16, x0zc16, x0za17, x0zn17, x0zc17, rfl⟩ := sh_Cell (Ty.rd_at (tCell.own_rd X0))
  have HBa0_4 := HBa0 w4 mC
  have HBa0s4 : W.heap.size < w4.heap.size := by have := More.size (show More (W.alloc (.cells #[.bool x.1.1.1, .slice s0a1 s0n1 s0c1, .slice s0a2 s0n2 s0c2, .bool x.2.1.1.1, .slice s0a4 s0n4 s0c4, .slice s0a5 s0n5 s0c5, .bool x.2.2.1.1.1, .slice s0a7 s0n7 s0c7, .slice s0a8 s0n8 s0c8, .bool x.2.2.2.1.1.1, .slice s0a10 s0n10 s0c10, .slice s0a11 s0n11 s0c11, .bool x.2.2.2.2.1.1.1, .slice s0a13 s0n13 s0c13, .slice s0a14 s0n14 s0c14, .bool x.2.2.2.2.2.1.1, .slice s0a16 s0n16 s0c16, .slice s0a17 s0n17 s0c17] 58)) w4 from mC); simp at this; omega
  try clear HBa0_3
  try clear HBa0s3
  have HBy_4 := HBy w4 mC
  have HBys4 : w3.heap.size < w4.heap.size := by have := More.size (show More (w3.alloc (.cells #[.bool r.1.1.1, .slice yra1 yrn1 yrc1, .slice yra2 yrn2 yrc2, .bool r.2.1.1, .slice yra4 yrn4 yrc4, .slice yra5 yrn5 yrc5] 47)) w4 from mC); simp at this; omega
  try clear HBy_3
  try clear HBys3
  have HBx0 : ∀ w', More (w4.alloc (.cells #[.bool x.1.1.1, .slice x0za1 x0zn1 x0zc1, .slice x0za2 x0zn2 x0zc2, .bool x.2.1.1.1, .slice x0za4 x0zn4 x0zc4, .slice x0za5 x0zn5 x0zc5, .bool x.2.2.1.1.1, .slice x0za7 x0zn7 x0zc7, .slice x0za8 x0zn8 x0zc8, .bool x.2.2.2.1.1.1, .slice x0za10 x0zn10 x0zc10, .slice x0za11 x0zn11 x0zc11, .bool x.2.2.2.2.1.1.1, .slice x0za13 x0zn13 x0zc13, .slice x0za14 x0zn14 x0zc14, .bool x.2.2.2.2.2.1.1, .slice x0za16 x0zn16 x0zc16, .slice x0za17 x0zn17 x0zc17] 62)) w' → w'.rangeAt (w4.heap.size) 0 [.bool x.1.1.1, .slice x0za1 x0zn1 x0zc1, .slice x0za2 x0zn2 x0zc2, .bool x.2.1.1.1, .slice x0za4 x0zn4 x0zc4, .slice x0za5 x0zn5 x0zc5, .bool x.2.2.1.1.1, .slice x0za7 x0zn7 x0zc7, .slice x0za8 x0zn8 x0zc8, .bool x.2.2.2.1.1.1, .slice x0za10 x0zn10 x0zc10, .slice x0za11 x0zn11 x0zc11, .bool x.2.2.2.2.1.1.1, .slice x0za13 x0zn13 x0zc13, .slice x0za14 x0zn14 x0zc14, .bool x.2.2.2.2.2.1.1, .slice x0za16 x0zn16 x0zc16, .slice x0za17 x0zn17 x0zc17] := fun w' h => box_range (by simp) h
  have HBx0gex0 : w4.heap.size ≤ w4.heap.size := by have := More.size (show More w4 w4 from mC); omega
  go_wp2_with (first | (refine wpList_load_mid rfl _ _ rfl (W.heap.size) 0 rfl _ _ (HBa0 _ mC) Tryz.underlying58 rfl (by kernel_rfl) ?_) | (refine wpList_load_mid rfl _ _ rfl (w4.heap.size) 0 rfl _ _ (HBx0 _ mC) Tryz.underlying62 rfl (by kernel_rfl) ?_))
  refine (impl_CenterOfL _ x _ (Ty.at_more (Ty.rd_at (tCell.own_rd X0)) mC) Hs0.out).mono ?_
  rintro e w5 ⟨g, rfl, b5, bg, G, ng, lg⟩
  rw [← ER.out] at G
  obtain ⟨gra1, grn1, grc1, gra2, grn2, grc2, gra4, grn4, grc4, gra5, grn5, grc5, rfl⟩ := sh_Point (Ty.rd_at (tPoint.own_rd G))
  have HBa0_5 := HBa0 w5 mC
  have HBa0s5 : W.heap.size < w5.heap.size := by have := More.size (show More (W.alloc (.cells #[.bool x.1.1.1, .slice s0a1 s0n1 s0c1, .slice s0a2 s0n2 s0c2, .bool x.2.1.1.1, .slice s0a4 s0n4 s0c4, .slice s0a5 s0n5 s0c5, .bool x.2.2.1.1.1, .slice s0a7 s0n7 s0c7, .slice s0a8 s0n8 s0c8, .bool x.2.2.2.1.1.1, .slice s0a10 s0n10 s0c10, .slice s0a11 s0n11 s0c11, .bool x.2.2.2.2.1.1.1, .slice s0a13 s0n13 s0c13, .slice s0a14 s0n14 s0c14, .bool x.2.2.2.2.2.1.1, .slice s0a16 s0n16 s0c16, .slice s0a17 s0n17 s0c17] 58)) w5 from mC); simp at this; omega
  try clear HBa0_4
  try clear HBa0s4
  have HBy_5 := HBy w5 mC
  have HBys5 : w3.heap.size < w5.heap.size := by have := More.size (show More (w3.alloc (.cells #[.bool r.1.1.1, .slice yra1 yrn1 yrc1, .slice yra2 yrn2 yrc2, .bool r.2.1.1, .slice yra4 yrn4 yrc4, .slice yra5 yrn5 yrc5] 47)) w5 from mC); simp at this; omega
  try clear HBy_4
  try clear HBys4
  have HBx0_5 := HBx0 w5 mC
  have HBx0s5 : w4.heap.size < w5.heap.size := by have := More.size (show More (w4.alloc (.cells #[.bool x.1.1.1, .slice x0za1 x0zn1 x0zc1, .slice x0za2 x0zn2 x0zc2, .bool x.2.1.1.1, .slice x0za4 x0zn4 x0zc4, .slice x0za5 x0zn5 x0zc5, .bool x.2.2.1.1.1, .slice x0za7 x0zn7 x0zc7, .slice x0za8 x0zn8 x0zc8, .bool x.2.2.2.1.1.1, .slice x0za10 x0zn10 x0zc10, .slice x0za11 x0zn11 x0zc11, .bool x.2.2.2.2.1.1.1, .slice x0za13 x0zn13 x0zc13, .slice x0za14 x0zn14 x0zc14, .bool x.2.2.2.2.2.1.1, .slice x0za16 x0zn16 x0zc16, .slice x0za17 x0zn17 x0zc17] 62)) w5 from mC); simp at this; omega
  try clear HBx0_4
  try clear HBx0s4
  have HBa0ltg : ∀ k ∈ bg, W.heap.size < k := fun k hk => Nat.lt_of_lt_of_le (show W.heap.size < ((W.alloc (.cells #[.bool x.1.1.1, .slice s0a1 s0n1 s0c1, .slice s0a2 s0n2 s0c2, .bool x.2.1.1.1, .slice s0a4 s0n4 s0c4, .slice s0a5 s0n5 s0c5, .bool x.2.2.1.1.1, .slice s0a7 s0n7 s0c7, .slice s0a8 s0n8 s0c8, .bool x.2.2.2.1.1.1, .slice s0a10 s0n10 s0c10, .slice s0a11 s0n11 s0c11, .bool x.2.2.2.2.1.1.1, .slice s0a13 s0n13 s0c13, .slice s0a14 s0n14 s0c14, .bool x.2.2.2.2.2.1.1, .slice s0a16 s0n16 s0c16, .slice s0a17 s0n17 s0c17] 58))).heap.size from by simp) (Nat.le_trans (More.size (show More ((W.alloc (.cells #[.bool x.1.1.1, .slice s0a1 s0n1 s0c1, .slice s0a2 s0n2 s0c2, .bool x.2.1.1.1, .slice s0a4 s0n4 s0c4, .slice s0a5 s0n5 s0c5, .bool x.2.2.1.1.1, .slice s0a7 s0n7 s0c7, .slice s0a8 s0n8 s0c8, .bool x.2.2.2.1.1.1, .slice s0a10 s0n10 s0c10, .slice s0a11 s0n11 s0c11, .bool x.2.2.2.2.1.1.1, .slice s0a13 s0n13 s0c13, .slice s0a14 s0n14 s0c14, .bool x.2.2.2.2.2.1.1, .slice s0a16 s0n16 s0c16, .slice s0a17 s0n17 s0c17] 58))) _ from mC)) (lg k hk))
  have HByltg : ∀ k ∈ bg, w3.heap.size < k := fun k hk => Nat.lt_of_lt_of_le (show w3.heap.size < ((w3.alloc (.cells #[.bool r.1.1.1, .slice yra1 yrn1 yrc1, .slice yra2 yrn2 yrc2, .bool r.2.1.1, .slice yra4 yrn4 yrc4, .slice yra5 yrn5 yrc5] 47))).heap.size from by simp) (Nat.le_trans (More.size (show More ((w3.alloc (.cells #[.bool r.1.1.1, .slice yra1 yrn1 yrc1, .slice yra2 yrn2 yrc2, .bool r.2.1.1, .slice yra4 yrn4 yrc4, .slice yra5 yrn5 yrc5] 47))) _ from mC)) (lg k hk))
  have HBx0ltg : ∀ k ∈ bg, w4.heap.size < k := fun k hk => Nat.lt_of_lt_of_le (show w4.heap.size < ((w4.alloc (.cells #[.bool x.1.1.1, .slice x0za1 x0zn1 x0zc1, .slice x0za2 x0zn2 x0zc2, .bool x.2.1.1.1, .slice x0za4 x0zn4 x0zc4, .slice x0za5 x0zn5 x0zc5, .bool x.2.2.1.1.1, .slice x0za7 x0zn7 x0zc7, .slice x0za8 x0zn8 x0zc8, .bool x.2.2.2.1.1.1, .slice x0za10 x0zn10 x0zc10, .slice x0za11 x0zn11 x0zc11, .bool x.2.2.2.2.1.1.1, .slice x0za13 x0zn13 x0zc13, .slice x0za14 x0zn14 x0zc14, .bool x.2.2.2.2.2.1.1, .slice x0za16 x0zn16 x0zc16, .slice x0za17 x0zn17 x0zc17] 62))).heap.size from by simp) (Nat.le_trans (More.size (show More ((w4.alloc (.cells #[.bool x.1.1.1, .slice x0za1 x0zn1 x0zc1, .slice x0za2 x0zn2 x0zc2, .bool x.2.1.1.1, .slice x0za4 x0zn4 x0zc4, .slice x0za5 x0zn5 x0zc5, .bool x.2.2.1.1.1, .slice x0za7 x0zn7 x0zc7, .slice x0za8 x0zn8 x0zc8, .bool x.2.2.2.1.1.1, .slice x0za10 x0zn10 x0zc10, .slice x0za11 x0zn11 x0zc11, .bool x.2.2.2.2.1.1.1, .slice x0za13 x0zn13 x0zc13, .slice x0za14 x0zn14 x0zc14, .bool x.2.2.2.2.2.1.1, .slice x0za16 x0zn16 x0zc16, .slice x0za17 x0zn17 x0zc17] 62))) _ from mC)) (lg k hk))
  have lg_x0 : ∀ k ∈ bg, w4.heap.size ≤ k := fun k hk => Nat.le_trans (More.size (show More w4 _ from mC)) (lg k hk)
  have HBg : ∀ w', More (w5.alloc (.cells #[.bool r.1.1.1, .slice gra1 grn1 grc1, .slice gra2 grn2 grc2, .bool r.2.1.1, .slice gra4 grn4 grc4, .slice gra5 grn5 grc5] 47)) w' → w'.cell? ⟨w5.heap.size, 0, none⟩ = some (.bool r.1.1.1) ∧ w'.cell? ⟨w5.heap.size, 1, none⟩ = some (.slice gra1 grn1 grc1) ∧ w'.cell? ⟨w5.heap.size, 2, none⟩ = some (.slice gra2 grn2 grc2) ∧ w'.cell? ⟨w5.heap.size, 3, none⟩ = some (.bool r.2.1.1) ∧ w'.cell? ⟨w5.heap.size, 4, none⟩ = some (.slice gra4 grn4 grc4) ∧ w'.cell? ⟨w5.heap.size, 5, none⟩ = some (.slice gra5 grn5 grc5) := fun w' h => ⟨box_new (by simp) h 0, box_new (by simp) h 1, box_new (by simp) h 2, box_new (by simp) h 3, box_new (by simp) h 4, box_new (by simp) h 5⟩
  have HBggex0 : w4.heap.size ≤ w5.heap.size := by have := More.size (show More w4 w5 from mC); omega
  have HBggeg : w5.heap.size ≤ w5.heap.size := by have := More.size (show More w5 w5 from mC); omega
  go_wp2_with (first | (refine wpList_load_mid rfl _ _ rfl (W.heap.size) 0 rfl _ _ (HBa0 _ mC) Tryz.underlying58 rfl (by kernel_rfl) ?_) | (refine wpList_load_mid rfl _ _ rfl (w4.heap.size) 0 rfl _ _ (HBx0 _ mC) Tryz.underlying62 rfl (by kernel_rfl) ?_))
  refine (laws_eqPoint _ _ r _ (Ty.at_more (Ty.rd_at (tPoint.own_rd G)) mC) (Ty.at_more (Ty.fresh_at Fy) mC) HrL.out).mono ?_
  rintro e w6 ⟨rfl, b6⟩
  have HBa0_6 := HBa0 w6 mC
  have HBa0s6 : W.heap.size < w6.heap.size := by have := More.size (show More (W.alloc (.cells #[.bool x.1.1.1, .slice s0a1 s0n1 s0c1, .slice s0a2 s0n2 s0c2, .bool x.2.1.1.1, .slice s0a4 s0n4 s0c4, .slice s0a5 s0n5 s0c5, .bool x.2.2.1.1.1, .slice s0a7 s0n7 s0c7, .slice s0a8 s0n8 s0c8, .bool x.2.2.2.1.1.1, .slice s0a10 s0n10 s0c10, .slice s0a11 s0n11 s0c11, .bool x.2.2.2.2.1.1.1, .slice s0a13 s0n13 s0c13, .slice s0a14 s0n14 s0c14, .bool x.2.2.2.2.2.1.1, .slice s0a16 s0n16 s0c16, .slice s0a17 s0n17 s0c17] 58)) w6 from mC); simp at this; omega
  try clear HBa0_5
  try clear HBa0s5
  have HBy_6 := HBy w6 mC
  have HBys6 : w3.heap.size < w6.heap.size := by have := More.size (show More (w3.alloc (.cells #[.bool r.1.1.1, .slice yra1 yrn1 yrc1, .slice yra2 yrn2 yrc2, .bool r.2.1.1, .slice yra4 yrn4 yrc4, .slice yra5 yrn5 yrc5] 47)) w6 from mC); simp at this; omega
  try clear HBy_5
  try clear HBys5
  have HBx0_6 := HBx0 w6 mC
  have HBx0s6 : w4.heap.size < w6.heap.size := by have := More.size (show More (w4.alloc (.cells #[.bool x.1.1.1, .slice x0za1 x0zn1 x0zc1, .slice x0za2 x0zn2 x0zc2, .bool x.2.1.1.1, .slice x0za4 x0zn4 x0zc4, .slice x0za5 x0zn5 x0zc5, .bool x.2.2.1.1.1, .slice x0za7 x0zn7 x0zc7, .slice x0za8 x0zn8 x0zc8, .bool x.2.2.2.1.1.1, .slice x0za10 x0zn10 x0zc10, .slice x0za11 x0zn11 x0zc11, .bool x.2.2.2.2.1.1.1, .slice x0za13 x0zn13 x0zc13, .slice x0za14 x0zn14 x0zc14, .bool x.2.2.2.2.2.1.1, .slice x0za16 x0zn16 x0zc16, .slice x0za17 x0zn17 x0zc17] 62)) w6 from mC); simp at this; omega
  try clear HBx0_5
  try clear HBx0s5
  have HBg_6 := HBg w6 mC
  have HBgs6 : w5.heap.size < w6.heap.size := by have := More.size (show More (w5.alloc (.cells #[.bool r.1.1.1, .slice gra1 grn1 grc1, .slice gra2 grn2 grc2, .bool r.2.1.1, .slice gra4 grn4 grc4, .slice gra5 grn5 grc5] 47)) w6 from mC); simp at this; omega
  try clear HBg_5
  try clear HBgs5
  go_wp2_with (first | (refine wpList_load_mid rfl _ _ rfl (W.heap.size) 0 rfl _ _ (HBa0 _ mC) Tryz.underlying58 rfl (by kernel_rfl) ?_) | (refine wpList_load_mid rfl _ _ rfl (w4.heap.size) 0 rfl _ _ (HBx0 _ mC) Tryz.underlying62 rfl (by kernel_rfl) ?_))
  have RHBa0 := fun (w' : World) (h : More w6 w') => HBa0 w' (More.trans (show More ((W.alloc (.cells #[.bool x.1.1.1, .slice s0a1 s0n1 s0c1, .slice s0a2 s0n2 s0c2, .bool x.2.1.1.1, .slice s0a4 s0n4 s0c4, .slice s0a5 s0n5 s0c5, .bool x.2.2.1.1.1, .slice s0a7 s0n7 s0c7, .slice s0a8 s0n8 s0c8, .bool x.2.2.2.1.1.1, .slice s0a10 s0n10 s0c10, .slice s0a11 s0n11 s0c11, .bool x.2.2.2.2.1.1.1, .slice s0a13 s0n13 s0c13, .slice s0a14 s0n14 s0c14, .bool x.2.2.2.2.2.1.1, .slice s0a16 s0n16 s0c16, .slice s0a17 s0n17 s0c17] 58))) w6 from mC) h)
  clear HBa0_6
  have RHBy := fun (w' : World) (h : More w6 w') => HBy w' (More.trans (show More ((w3.alloc (.cells #[.bool r.1.1.1, .slice yra1 yrn1 yrc1, .slice yra2 yrn2 yrc2, .bool r.2.1.1, .slice yra4 yrn4 yrc4, .slice yra5 yrn5 yrc5] 47))) w6 from mC) h)
  clear HBy_6
  have RHBx0 := fun (w' : World) (h : More w6 w') => HBx0 w' (More.trans (show More ((w4.alloc (.cells #[.bool x.1.1.1, .slice x0za1 x0zn1 x0zc1, .slice x0za2 x0zn2 x0zc2, .bool x.2.1.1.1, .slice x0za4 x0zn4 x0zc4, .slice x0za5 x0zn5 x0zc5, .bool x.2.2.1.1.1, .slice x0za7 x0zn7 x0zc7, .slice x0za8 x0zn8 x0zc8, .bool x.2.2.2.1.1.1, .slice x0za10 x0zn10 x0zc10, .slice x0za11 x0zn11 x0zc11, .bool x.2.2.2.2.1.1.1, .slice x0za13 x0zn13 x0zc13, .slice x0za14 x0zn14 x0zc14, .bool x.2.2.2.2.2.1.1, .slice x0za16 x0zn16 x0zc16, .slice x0za17 x0zn17 x0zc17] 62))) w6 from mC) h)
  clear HBx0_6
  have RHBg := fun (w' : World) (h : More w6 w') => HBg w' (More.trans (show More ((w5.alloc (.cells #[.bool r.1.1.1, .slice gra1 grn1 grc1, .slice gra2 grn2 grc2, .bool r.2.1.1, .slice gra4 grn4 grc4, .slice gra5 grn5 grc5] 47))) w6 from mC) h)
  clear HBg_6
  refine wp_region_held_drew (S := (fun w' => More w6 w')) (by kernel_rfl) ?_ (fun hHeld => ?_)
  · first | exact More.refl _ | exact mC
  refine tk (v := .agg ([.bool x.1.1.1, .slice x0za1 x0zn1 x0zc1, .slice x0za2 x0zn2 x0zc2, .bool x.2.1.1.1, .slice x0za4 x0zn4 x0zc4, .slice x0za5 x0zn5 x0zc5, .bool x.2.2.1.1.1, .slice x0za7 x0zn7 x0zc7, .slice x0za8 x0zn8 x0zc8, .bool x.2.2.2.1.1.1, .slice x0za10 x0zn10 x0zc10, .slice x0za11 x0zn11 x0zc11, .bool x.2.2.2.2.1.1.1, .slice x0za13 x0zn13 x0zc13, .slice x0za14 x0zn14 x0zc14, .bool x.2.2.2.2.2.1.1, .slice x0za16 x0zn16 x0zc16, .slice x0za17 x0zn17 x0zc17] : List Value).toArray) 0 ⟨some 27, _, _, _, _, _⟩ rfl ?_ (fun w9 hSw => run_ld _ _ rfl (w4.heap.size) 0 rfl [.bool x.1.1.1, .slice x0za1 x0zn1 x0zc1, .slice x0za2 x0zn2 x0zc2, .bool x.2.1.1.1, .slice x0za4 x0zn4 x0zc4, .slice x0za5 x0zn5 x0zc5, .bool x.2.2.1.1.1, .slice x0za7 x0zn7 x0zc7, .slice x0za8 x0zn8 x0zc8, .bool x.2.2.2.1.1.1, .slice x0za10 x0zn10 x0zc10, .slice x0za11 x0zn11 x0zc11, .bool x.2.2.2.2.1.1.1, .slice x0za13 x0zn13 x0zc13, .slice x0za14 x0zn14 x0zc14, .bool x.2.2.2.2.2.1.1, .slice x0za16 x0zn16 x0zc16, .slice x0za17 x0zn17 x0zc17] _ (RHBx0 w9 hSw) Tryz.underlying62 rfl (by kernel_rfl))
  (try simp only [Act.put, List.setIfInBounds_toArray, List.set_cons_zero, List.set_cons_succ])
  refine tk (v := .agg ([.bool x.1.1.1, .slice s0a1 s0n1 s0c1, .slice s0a2 s0n2 s0c2, .bool x.2.1.1.1, .slice s0a4 s0n4 s0c4, .slice s0a5 s0n5 s0c5, .bool x.2.2.1.1.1, .slice s0a7 s0n7 s0c7, .slice s0a8 s0n8 s0c8, .bool x.2.2.2.1.1.1, .slice s0a10 s0n10 s0c10, .slice s0a11 s0n11 s0c11, .bool x.2.2.2.2.1.1.1, .slice s0a13 s0n13 s0c13, .slice s0a14 s0n14 s0c14, .bool x.2.2.2.2.2.1.1, .slice s0a16 s0n16 s0c16, .slice s0a17 s0n17 s0c17] : List Value).toArray) 1 ⟨some 28, _, _, _, _, _⟩ rfl ?_ (fun w9 hSw => run_ld _ _ rfl (W.heap.size) 0 rfl [.bool x.1.1.1, .slice s0a1 s0n1 s0c1, .slice s0a2 s0n2 s0c2, .bool x.2.1.1.1, .slice s0a4 s0n4 s0c4, .slice s0a5 s0n5 s0c5, .bool x.2.2.1.1.1, .slice s0a7 s0n7 s0c7, .slice s0a8 s0n8 s0c8, .bool x.2.2.2.1.1.1, .slice s0a10 s0n10 s0c10, .slice s0a11 s0n11 s0c11, .bool x.2.2.2.2.1.1.1, .slice s0a13 s0n13 s0c13, .slice s0a14 s0n14 s0c14, .bool x.2.2.2.2.2.1.1, .slice s0a16 s0n16 s0c16, .slice s0a17 s0n17 s0c17] _ (RHBa0 w9 hSw) Tryz.underlying58 rfl (by kernel_rfl))
  (try simp only [Act.put, List.setIfInBounds_toArray, List.set_cons_zero, List.set_cons_succ])
  refine wpAnyH_ready (rs := [2]) (by kernel_rfl) (by simp) ?_
  refine AllReadyH.cons (o := ⟨some 29, _, _, _, _, _⟩) rfl (fun K hK => ?_) AllReadyH.nil
  go_simp
  (go_at_call 27; (with_reducible refine (laws_toCell _ x _ (Ty.at_more HV0.out mC) Hs0.out).mono ?_); rintro e w7 ⟨t0, rfl, b7, Ft0⟩; obtain ⟨t0za1, t0zn1, t0zc1, t0za2, t0zn2, t0zc2, t0za4, t0zn4, t0zc4, t0za5, t0zn5, t0zc5, t0za7, t0zn7, t0zc7, t0za8, t0zn8, t0zc8, t0za10, t0zn10, t0zc10, t0za11, t0zn11, t0zc11, t0za13, t0zn13, t0zc13, t0za14, t0zn14, t0zc14, t0za16, t0zn16, t0zc16, t0za17, t0zn17, t0zc17, rfl⟩ := sh_Cell (Ty.fresh_at Ft0))
  refine hK.out _ _ ?_ (fun hHeld => ?_)
  · first | exact More.refl _ | exact mC
  clear hK K
  (try simp only [Act.put, List.setIfInBounds_toArray, List.set_cons_zero, List.set_cons_succ])
  refine wpAnyH_ready (rs := [3]) (by kernel_rfl) (by simp) ?_
  refine AllReadyH.cons (o := ⟨some 30, _, _, _, _, _⟩) rfl (fun K hK => ?_) AllReadyH.nil
  go_simp
  (go_at_call 29; (with_reducible refine (laws_eqCell _ _ x _ (Ty.at_more (Ty.rd_at (tCell.own_rd X0)) mC) (Ty.at_more (Ty.fresh_at Ft0) (Turns.more (by ((repeat (first | (with_reducible apply Turns.drew) | (with_reducible apply Turns.drewN) | (with_reducible apply Turns.alloc))); exact Turns.refl _ _)))) Hs0.out).mono ?_); rintro e w8 ⟨rfl, b8⟩)
  refine hK.out _ _ ?_ (fun hHeld => ?_)
  · first | exact More.refl _ | exact mC
  clear hK K
  (try simp only [Act.put, List.setIfInBounds_toArray, List.set_cons_zero, List.set_cons_succ])
  refine tk (v := ?_) 4 ⟨some 31, _, _, _, _, _⟩ rfl ?_ ?_
  rotate_left 2
  · (intro w hSw; (try dsimp only at hSw); go_simp; (try with_reducible rfl))
  (try simp only [Act.put, List.setIfInBounds_toArray, List.set_cons_zero, List.set_cons_succ])
  refine wpAnyH_done (by kernel_rfl) ?_ _
  clear RHBa0
  clear RHBy
  clear RHBx0
  clear RHBg
  have HBa0_8 := HBa0 w8 mC
  have HBa0s8 : W.heap.size < w8.heap.size := by have := More.size (show More (W.alloc (.cells #[.bool x.1.1.1, .slice s0a1 s0n1 s0c1, .slice s0a2 s0n2 s0c2, .bool x.2.1.1.1, .slice s0a4 s0n4 s0c4, .slice s0a5 s0n5 s0c5, .bool x.2.2.1.1.1, .slice s0a7 s0n7 s0c7, .slice s0a8 s0n8 s0c8, .bool x.2.2.2.1.1.1, .slice s0a10 s0n10 s0c10, .slice s0a11 s0n11 s0c11, .bool x.2.2.2.2.1.1.1, .slice s0a13 s0n13 s0c13, .slice s0a14 s0n14 s0c14, .bool x.2.2.2.2.2.1.1, .slice s0a16 s0n16 s0c16, .slice s0a17 s0n17 s0c17] 58)) w8 from mC); simp at this; omega
  try clear HBa0_7
  try clear HBa0s7
  have HBy_8 := HBy w8 mC
  have HBys8 : w3.heap.size < w8.heap.size := by have := More.size (show More (w3.alloc (.cells #[.bool r.1.1.1, .slice yra1 yrn1 yrc1, .slice yra2 yrn2 yrc2, .bool r.2.1.1, .slice yra4 yrn4 yrc4, .slice yra5 yrn5 yrc5] 47)) w8 from mC); simp at this; omega
  try clear HBy_7
  try clear HBys7
  have HBx0_8 := HBx0 w8 mC
  have HBx0s8 : w4.heap.size < w8.heap.size := by have := More.size (show More (w4.alloc (.cells #[.bool x.1.1.1, .slice x0za1 x0zn1 x0zc1, .slice x0za2 x0zn2 x0zc2, .bool x.2.1.1.1, .slice x0za4 x0zn4 x0zc4, .slice x0za5 x0zn5 x0zc5, .bool x.2.2.1.1.1, .slice x0za7 x0zn7 x0zc7, .slice x0za8 x0zn8 x0zc8, .bool x.2.2.2.1.1.1, .slice x0za10 x0zn10 x0zc10, .slice x0za11 x0zn11 x0zc11, .bool x.2.2.2.2.1.1.1, .slice x0za13 x0zn13 x0zc13, .slice x0za14 x0zn14 x0zc14, .bool x.2.2.2.2.2.1.1, .slice x0za16 x0zn16 x0zc16, .slice x0za17 x0zn17 x0zc17] 62)) w8 from mC); simp at this; omega
  try clear HBx0_7
  try clear HBx0s7
  have HBg_8 := HBg w8 mC
  have HBgs8 : w5.heap.size < w8.heap.size := by have := More.size (show More (w5.alloc (.cells #[.bool r.1.1.1, .slice gra1 grn1 grc1, .slice gra2 grn2 grc2, .bool r.2.1.1, .slice gra4 grn4 grc4, .slice gra5 grn5 grc5] 47)) w8 from mC); simp at this; omega
  try clear HBg_7
  try clear HBgs7
  go_wp2_with (first | (refine wpList_load_mid rfl _ _ rfl (W.heap.size) 0 rfl _ _ (HBa0 _ mC) Tryz.underlying58 rfl (by kernel_rfl) ?_) | (refine wpList_load_mid rfl _ _ rfl (w4.heap.size) 0 rfl _ _ (HBx0 _ mC) Tryz.underlying62 rfl (by kernel_rfl) ?_))
  refine (laws_markCell_ bx0 _ x _ _ (Ty.own_more X0 mC) nx0 (by omega) (by have := HC0.out; omega) Hs0.out).mono ?_
  rintro e w9 ⟨rfl, T9, M9⟩
  have go9 := Ty.own_turns (Ty.own_more G mC) T9 (fun k hk hk' => by have h1 := lg_x0 k hk; have h2 := tCell.own_lt X0 k hk'; omega)
  have HBa0z' : W.heap.size < w9.heap.size := Nat.lt_of_lt_of_le (Nat.lt_of_lt_of_le (show W.heap.size < ((W.alloc (.cells #[.bool x.1.1.1, .slice s0a1 s0n1 s0c1, .slice s0a2 s0n2 s0c2, .bool x.2.1.1.1, .slice s0a4 s0n4 s0c4, .slice s0a5 s0n5 s0c5, .bool x.2.2.1.1.1, .slice s0a7 s0n7 s0c7, .slice s0a8 s0n8 s0c8, .bool x.2.2.2.1.1.1, .slice s0a10 s0n10 s0c10, .slice s0a11 s0n11 s0c11, .bool x.2.2.2.2.1.1.1, .slice s0a13 s0n13 s0c13, .slice s0a14 s0n14 s0c14, .bool x.2.2.2.2.2.1.1, .slice s0a16 s0n16 s0c16, .slice s0a17 s0n17 s0c17] 58))).heap.size from by simp) (More.size (show More ((W.alloc (.cells #[.bool x.1.1.1, .slice s0a1 s0n1 s0c1, .slice s0a2 s0n2 s0c2, .bool x.2.1.1.1, .slice s0a4 s0n4 s0c4, .slice s0a5 s0n5 s0c5, .bool x.2.2.1.1.1, .slice s0a7 s0n7 s0c7, .slice s0a8 s0n8 s0c8, .bool x.2.2.2.1.1.1, .slice s0a10 s0n10 s0c10, .slice s0a11 s0n11 s0c11, .bool x.2.2.2.2.1.1.1, .slice s0a13 s0n13 s0c13, .slice s0a14 s0n14 s0c14, .bool x.2.2.2.2.2.1.1, .slice s0a16 s0n16 s0c16, .slice s0a17 s0n17 s0c17] 58))) _ from mC))) T9.size
  have HBa0k : w9.rangeAt (W.heap.size) 0 [.bool x.1.1.1, .slice s0a1 s0n1 s0c1, .slice s0a2 s0n2 s0c2, .bool x.2.1.1.1, .slice s0a4 s0n4 s0c4, .slice s0a5 s0n5 s0c5, .bool x.2.2.1.1.1, .slice s0a7 s0n7 s0c7, .slice s0a8 s0n8 s0c8, .bool x.2.2.2.1.1.1, .slice s0a10 s0n10 s0c10, .slice s0a11 s0n11 s0c11, .bool x.2.2.2.2.1.1.1, .slice s0a13 s0n13 s0c13, .slice s0a14 s0n14 s0c14, .bool x.2.2.2.2.2.1.1, .slice s0a16 s0n16 s0c16, .slice s0a17 s0n17 s0c17] := range_turn T9 (Nat.lt_of_lt_of_le (show W.heap.size < ((W.alloc (.cells #[.bool x.1.1.1, .slice s0a1 s0n1 s0c1, .slice s0a2 s0n2 s0c2, .bool x.2.1.1.1, .slice s0a4 s0n4 s0c4, .slice s0a5 s0n5 s0c5, .bool x.2.2.1.1.1, .slice s0a7 s0n7 s0c7, .slice s0a8 s0n8 s0c8, .bool x.2.2.2.1.1.1, .slice s0a10 s0n10 s0c10, .slice s0a11 s0n11 s0c11, .bool x.2.2.2.2.1.1.1, .slice s0a13 s0n13 s0c13, .slice s0a14 s0n14 s0c14, .bool x.2.2.2.2.2.1.1, .slice s0a16 s0n16 s0c16, .slice s0a17 s0n17 s0c17] 58))).heap.size from by simp) (More.size (show More ((W.alloc (.cells #[.bool x.1.1.1, .slice s0a1 s0n1 s0c1, .slice s0a2 s0n2 s0c2, .bool x.2.1.1.1, .slice s0a4 s0n4 s0c4, .slice s0a5 s0n5 s0c5, .bool x.2.2.1.1.1, .slice s0a7 s0n7 s0c7, .slice s0a8 s0n8 s0c8, .bool x.2.2.2.1.1.1, .slice s0a10 s0n10 s0c10, .slice s0a11 s0n11 s0c11, .bool x.2.2.2.2.1.1.1, .slice s0a13 s0n13 s0c13, .slice s0a14 s0n14 s0c14, .bool x.2.2.2.2.2.1.1, .slice s0a16 s0n16 s0c16, .slice s0a17 s0n17 s0c17] 58))) _ from mC))) (fun h => by have h1 := HBa0ltx0 _ h; omega) (HBa0 _ mC)
  have HByz' : w3.heap.size < w9.heap.size := Nat.lt_of_lt_of_le (Nat.lt_of_lt_of_le (show w3.heap.size < ((w3.alloc (.cells #[.bool r.1.1.1, .slice yra1 yrn1 yrc1, .slice yra2 yrn2 yrc2, .bool r.2.1.1, .slice yra4 yrn4 yrc4, .slice yra5 yrn5 yrc5] 47))).heap.size from by simp) (More.size (show More ((w3.alloc (.cells #[.bool r.1.1.1, .slice yra1 yrn1 yrc1, .slice yra2 yrn2 yrc2, .bool r.2.1.1, .slice yra4 yrn4 yrc4, .slice yra5 yrn5 yrc5] 47))) _ from mC))) T9.size
  have HByk : w9.cell? ⟨w3.heap.size, 0, none⟩ = some (.bool r.1.1.1) ∧ w9.cell? ⟨w3.heap.size, 1, none⟩ = some (.slice yra1 yrn1 yrc1) ∧ w9.cell? ⟨w3.heap.size, 2, none⟩ = some (.slice yra2 yrn2 yrc2) ∧ w9.cell? ⟨w3.heap.size, 3, none⟩ = some (.bool r.2.1.1) ∧ w9.cell? ⟨w3.heap.size, 4, none⟩ = some (.slice yra4 yrn4 yrc4) ∧ w9.cell? ⟨w3.heap.size, 5, none⟩ = some (.slice yra5 yrn5 yrc5) := ⟨turn_cell T9 (Nat.lt_of_lt_of_le (show w3.heap.size < ((w3.alloc (.cells #[.bool r.1.1.1, .slice yra1 yrn1 yrc1, .slice yra2 yrn2 yrc2, .bool r.2.1.1, .slice yra4 yrn4 yrc4, .slice yra5 yrn5 yrc5] 47))).heap.size from by simp) (More.size (show More ((w3.alloc (.cells #[.bool r.1.1.1, .slice yra1 yrn1 yrc1, .slice yra2 yrn2 yrc2, .bool r.2.1.1, .slice yra4 yrn4 yrc4, .slice yra5 yrn5 yrc5] 47))) _ from mC))) (fun h => by have h1 := HByltx0 _ h; omega) (HBy _ mC).1, turn_cell T9 (Nat.lt_of_lt_of_le (show w3.heap.size < ((w3.alloc (.cells #[.bool r.1.1.1, .slice yra1 yrn1 yrc1, .slice yra2 yrn2 yrc2, .bool r.2.1.1, .slice yra4 yrn4 yrc4, .slice yra5 yrn5 yrc5] 47))).heap.size from by simp) (More.size (show More ((w3.alloc (.cells #[.bool r.1.1.1, .slice yra1 yrn1 yrc1, .slice yra2 yrn2 yrc2, .bool r.2.1.1, .slice yra4 yrn4 yrc4, .slice yra5 yrn5 yrc5] 47))) _ from mC))) (fun h => by have h1 := HByltx0 _ h; omega) (HBy _ mC).2.1, turn_cell T9 (Nat.lt_of_lt_of_le (show w3.heap.size < ((w3.alloc (.cells #[.bool r.1.1.1, .slice yra1 yrn1 yrc1, .slice yra2 yrn2 yrc2, .bool r.2.1.1, .slice yra4 yrn4 yrc4, .slice yra5 yrn5 yrc5] 47))).heap.size from by simp) (More.size (show More ((w3.alloc (.cells #[.bool r.1.1.1, .slice yra1 yrn1 yrc1, .slice yra2 yrn2 yrc2, .bool r.2.1.1, .slice yra4 yrn4 yrc4, .slice yra5 yrn5 yrc5] 47))) _ from mC))) (fun h => by have h1 := HByltx0 _ h; omega) (HBy _ mC).2.2.1, turn_cell T9 (Nat.lt_of_lt_of_le (show w3.heap.size < ((w3.alloc (.cells #[.bool r.1.1.1, .slice yra1 yrn1 yrc1, .slice yra2 yrn2 yrc2, .bool r.2.1.1, .slice yra4 yrn4 yrc4, .slice yra5 yrn5 yrc5] 47))).heap.size from by simp) (More.size (show More ((w3.alloc (.cells #[.bool r.1.1.1, .slice yra1 yrn1 yrc1, .slice yra2 yrn2 yrc2, .bool r.2.1.1, .slice yra4 yrn4 yrc4, .slice yra5 yrn5 yrc5] 47))) _ from mC))) (fun h => by have h1 := HByltx0 _ h; omega) (HBy _ mC).2.2.2.1, turn_cell T9 (Nat.lt_of_lt_of_le (show w3.heap.size < ((w3.alloc (.cells #[.bool r.1.1.1, .slice yra1 yrn1 yrc1, .slice yra2 yrn2 yrc2, .bool r.2.1.1, .slice yra4 yrn4 yrc4, .slice yra5 yrn5 yrc5] 47))).heap.size from by simp) (More.size (show More ((w3.alloc (.cells #[.bool r.1.1.1, .slice yra1 yrn1 yrc1, .slice yra2 yrn2 yrc2, .bool r.2.1.1, .slice yra4 yrn4 yrc4, .slice yra5 yrn5 yrc5] 47))) _ from mC))) (fun h => by have h1 := HByltx0 _ h; omega) (HBy _ mC).2.2.2.2.1, turn_cell T9 (Nat.lt_of_lt_of_le (show w3.heap.size < ((w3.alloc (.cells #[.bool r.1.1.1, .slice yra1 yrn1 yrc1, .slice yra2 yrn2 yrc2, .bool r.2.1.1, .slice yra4 yrn4 yrc4, .slice yra5 yrn5 yrc5] 47))).heap.size from by simp) (More.size (show More ((w3.alloc (.cells #[.bool r.1.1.1, .slice yra1 yrn1 yrc1, .slice yra2 yrn2 yrc2, .bool r.2.1.1, .slice yra4 yrn4 yrc4, .slice yra5 yrn5 yrc5] 47))) _ from mC))) (fun h => by have h1 := HByltx0 _ h; omega) (HBy _ mC).2.2.2.2.2⟩
  have HBx0z' : w4.heap.size < w9.heap.size := Nat.lt_of_lt_of_le (Nat.lt_of_lt_of_le (show w4.heap.size < ((w4.alloc (.cells #[.bool x.1.1.1, .slice x0za1 x0zn1 x0zc1, .slice x0za2 x0zn2 x0zc2, .bool x.2.1.1.1, .slice x0za4 x0zn4 x0zc4, .slice x0za5 x0zn5 x0zc5, .bool x.2.2.1.1.1, .slice x0za7 x0zn7 x0zc7, .slice x0za8 x0zn8 x0zc8, .bool x.2.2.2.1.1.1, .slice x0za10 x0zn10 x0zc10, .slice x0za11 x0zn11 x0zc11, .bool x.2.2.2.2.1.1.1, .slice x0za13 x0zn13 x0zc13, .slice x0za14 x0zn14 x0zc14, .bool x.2.2.2.2.2.1.1, .slice x0za16 x0zn16 x0zc16, .slice x0za17 x0zn17 x0zc17] 62))).heap.size from by simp) (More.size (show More ((w4.alloc (.cells #[.bool x.1.1.1, .slice x0za1 x0zn1 x0zc1, .slice x0za2 x0zn2 x0zc2, .bool x.2.1.1.1, .slice x0za4 x0zn4 x0zc4, .slice x0za5 x0zn5 x0zc5, .bool x.2.2.1.1.1, .slice x0za7 x0zn7 x0zc7, .slice x0za8 x0zn8 x0zc8, .bool x.2.2.2.1.1.1, .slice x0za10 x0zn10 x0zc10, .slice x0za11 x0zn11 x0zc11, .bool x.2.2.2.2.1.1.1, .slice x0za13 x0zn13 x0zc13, .slice x0za14 x0zn14 x0zc14, .bool x.2.2.2.2.2.1.1, .slice x0za16 x0zn16 x0zc16, .slice x0za17 x0zn17 x0zc17] 62))) _ from mC))) T9.size
  have HBx0k : w9.rangeAt (w4.heap.size) 0 [.bool x.1.1.1, .slice x0za1 x0zn1 x0zc1, .slice x0za2 x0zn2 x0zc2, .bool x.2.1.1.1, .slice x0za4 x0zn4 x0zc4, .slice x0za5 x0zn5 x0zc5, .bool x.2.2.1.1.1, .slice x0za7 x0zn7 x0zc7, .slice x0za8 x0zn8 x0zc8, .bool x.2.2.2.1.1.1, .slice x0za10 x0zn10 x0zc10, .slice x0za11 x0zn11 x0zc11, .bool x.2.2.2.2.1.1.1, .slice x0za13 x0zn13 x0zc13, .slice x0za14 x0zn14 x0zc14, .bool x.2.2.2.2.2.1.1, .slice x0za16 x0zn16 x0zc16, .slice x0za17 x0zn17 x0zc17] := range_turn T9 (Nat.lt_of_lt_of_le (show w4.heap.size < ((w4.alloc (.cells #[.bool x.1.1.1, .slice x0za1 x0zn1 x0zc1, .slice x0za2 x0zn2 x0zc2, .bool x.2.1.1.1, .slice x0za4 x0zn4 x0zc4, .slice x0za5 x0zn5 x0zc5, .bool x.2.2.1.1.1, .slice x0za7 x0zn7 x0zc7, .slice x0za8 x0zn8 x0zc8, .bool x.2.2.2.1.1.1, .slice x0za10 x0zn10 x0zc10, .slice x0za11 x0zn11 x0zc11, .bool x.2.2.2.2.1.1.1, .slice x0za13 x0zn13 x0zc13, .slice x0za14 x0zn14 x0zc14, .bool x.2.2.2.2.2.1.1, .slice x0za16 x0zn16 x0zc16, .slice x0za17 x0zn17 x0zc17] 62))).heap.size from by simp) (More.size (show More ((w4.alloc (.cells #[.bool x.1.1.1, .slice x0za1 x0zn1 x0zc1, .slice x0za2 x0zn2 x0zc2, .bool x.2.1.1.1, .slice x0za4 x0zn4 x0zc4, .slice x0za5 x0zn5 x0zc5, .bool x.2.2.1.1.1, .slice x0za7 x0zn7 x0zc7, .slice x0za8 x0zn8 x0zc8, .bool x.2.2.2.1.1.1, .slice x0za10 x0zn10 x0zc10, .slice x0za11 x0zn11 x0zc11, .bool x.2.2.2.2.1.1.1, .slice x0za13 x0zn13 x0zc13, .slice x0za14 x0zn14 x0zc14, .bool x.2.2.2.2.2.1.1, .slice x0za16 x0zn16 x0zc16, .slice x0za17 x0zn17 x0zc17] 62))) _ from mC))) (fun h => by have h1 := HBx0gex0; have h2 := tCell.own_lt X0 _ h; omega) (HBx0 _ mC)
  have HBgz' : w5.heap.size < w9.heap.size := Nat.lt_of_lt_of_le (Nat.lt_of_lt_of_le (show w5.heap.size < ((w5.alloc (.cells #[.bool r.1.1.1, .slice gra1 grn1 grc1, .slice gra2 grn2 grc2, .bool r.2.1.1, .slice gra4 grn4 grc4, .slice gra5 grn5 grc5] 47))).heap.size from by simp) (More.size (show More ((w5.alloc (.cells #[.bool r.1.1.1, .slice gra1 grn1 grc1, .slice gra2 grn2 grc2, .bool r.2.1.1, .slice gra4 grn4 grc4, .slice gra5 grn5 grc5] 47))) _ from mC))) T9.size
  have HBgk : w9.cell? ⟨w5.heap.size, 0, none⟩ = some (.bool r.1.1.1) ∧ w9.cell? ⟨w5.heap.size, 1, none⟩ = some (.slice gra1 grn1 grc1) ∧ w9.cell? ⟨w5.heap.size, 2, none⟩ = some (.slice gra2 grn2 grc2) ∧ w9.cell? ⟨w5.heap.size, 3, none⟩ = some (.bool r.2.1.1) ∧ w9.cell? ⟨w5.heap.size, 4, none⟩ = some (.slice gra4 grn4 grc4) ∧ w9.cell? ⟨w5.heap.size, 5, none⟩ = some (.slice gra5 grn5 grc5) := ⟨turn_cell T9 (Nat.lt_of_lt_of_le (show w5.heap.size < ((w5.alloc (.cells #[.bool r.1.1.1, .slice gra1 grn1 grc1, .slice gra2 grn2 grc2, .bool r.2.1.1, .slice gra4 grn4 grc4, .slice gra5 grn5 grc5] 47))).heap.size from by simp) (More.size (show More ((w5.alloc (.cells #[.bool r.1.1.1, .slice gra1 grn1 grc1, .slice gra2 grn2 grc2, .bool r.2.1.1, .slice gra4 grn4 grc4, .slice gra5 grn5 grc5] 47))) _ from mC))) (fun h => by have h1 := HBggex0; have h2 := tCell.own_lt X0 _ h; omega) (HBg _ mC).1, turn_cell T9 (Nat.lt_of_lt_of_le (show w5.heap.size < ((w5.alloc (.cells #[.bool r.1.1.1, .slice gra1 grn1 grc1, .slice gra2 grn2 grc2, .bool r.2.1.1, .slice gra4 grn4 grc4, .slice gra5 grn5 grc5] 47))).heap.size from by simp) (More.size (show More ((w5.alloc (.cells #[.bool r.1.1.1, .slice gra1 grn1 grc1, .slice gra2 grn2 grc2, .bool r.2.1.1, .slice gra4 grn4 grc4, .slice gra5 grn5 grc5] 47))) _ from mC))) (fun h => by have h1 := HBggex0; have h2 := tCell.own_lt X0 _ h; omega) (HBg _ mC).2.1, turn_cell T9 (Nat.lt_of_lt_of_le (show w5.heap.size < ((w5.alloc (.cells #[.bool r.1.1.1, .slice gra1 grn1 grc1, .slice gra2 grn2 grc2, .bool r.2.1.1, .slice gra4 grn4 grc4, .slice gra5 grn5 grc5] 47))).heap.size from by simp) (More.size (show More ((w5.alloc (.cells #[.bool r.1.1.1, .slice gra1 grn1 grc1, .slice gra2 grn2 grc2, .bool r.2.1.1, .slice gra4 grn4 grc4, .slice gra5 grn5 grc5] 47))) _ from mC))) (fun h => by have h1 := HBggex0; have h2 := tCell.own_lt X0 _ h; omega) (HBg _ mC).2.2.1, turn_cell T9 (Nat.lt_of_lt_of_le (show w5.heap.size < ((w5.alloc (.cells #[.bool r.1.1.1, .slice gra1 grn1 grc1, .slice gra2 grn2 grc2, .bool r.2.1.1, .slice gra4 grn4 grc4, .slice gra5 grn5 grc5] 47))).heap.size from by simp) (More.size (show More ((w5.alloc (.cells #[.bool r.1.1.1, .slice gra1 grn1 grc1, .slice gra2 grn2 grc2, .bool r.2.1.1, .slice gra4 grn4 grc4, .slice gra5 grn5 grc5] 47))) _ from mC))) (fun h => by have h1 := HBggex0; have h2 := tCell.own_lt X0 _ h; omega) (HBg _ mC).2.2.2.1, turn_cell T9 (Nat.lt_of_lt_of_le (show w5.heap.size < ((w5.alloc (.cells #[.bool r.1.1.1, .slice gra1 grn1 grc1, .slice gra2 grn2 grc2, .bool r.2.1.1, .slice gra4 grn4 grc4, .slice gra5 grn5 grc5] 47))).heap.size from by simp) (More.size (show More ((w5.alloc (.cells #[.bool r.1.1.1, .slice gra1 grn1 grc1, .slice gra2 grn2 grc2, .bool r.2.1.1, .slice gra4 grn4 grc4, .slice gra5 grn5 grc5] 47))) _ from mC))) (fun h => by have h1 := HBggex0; have h2 := tCell.own_lt X0 _ h; omega) (HBg _ mC).2.2.2.2.1, turn_cell T9 (Nat.lt_of_lt_of_le (show w5.heap.size < ((w5.alloc (.cells #[.bool r.1.1.1, .slice gra1 grn1 grc1, .slice gra2 grn2 grc2, .bool r.2.1.1, .slice gra4 grn4 grc4, .slice gra5 grn5 grc5] 47))).heap.size from by simp) (More.size (show More ((w5.alloc (.cells #[.bool r.1.1.1, .slice gra1 grn1 grc1, .slice gra2 grn2 grc2, .bool r.2.1.1, .slice gra4 grn4 grc4, .slice gra5 grn5 grc5] 47))) _ from mC))) (fun h => by have h1 := HBggex0; have h2 := tCell.own_lt X0 _ h; omega) (HBg _ mC).2.2.2.2.2⟩
  have b9 := More.turn (b4.trans mC) T9 lx0
  try clear HBa0_8
  try clear HBa0s8
  clear HBa0
  have HBa0 : ∀ w', More w9 w' → w'.rangeAt (W.heap.size) 0 [.bool x.1.1.1, .slice s0a1 s0n1 s0c1, .slice s0a2 s0n2 s0c2, .bool x.2.1.1.1, .slice s0a4 s0n4 s0c4, .slice s0a5 s0n5 s0c5, .bool x.2.2.1.1.1, .slice s0a7 s0n7 s0c7, .slice s0a8 s0n8 s0c8, .bool x.2.2.2.1.1.1, .slice s0a10 s0n10 s0c10, .slice s0a11 s0n11 s0c11, .bool x.2.2.2.2.1.1.1, .slice s0a13 s0n13 s0c13, .slice s0a14 s0n14 s0c14, .bool x.2.2.2.2.2.1.1, .slice s0a16 s0n16 s0c16, .slice s0a17 s0n17 s0c17] := fun w' h => range_keep h HBa0z' HBa0k
  try clear HBa0z
  have HBa0z := HBa0z'; clear HBa0z' HBa0k
  have HBa0_9 := HBa0 w9 (More.refl _)
  have HBa0s9 := HBa0z
  try clear HBy_8
  try clear HBys8
  clear HBy
  have HBy : ∀ w', More w9 w' → w'.cell? ⟨w3.heap.size, 0, none⟩ = some (.bool r.1.1.1) ∧ w'.cell? ⟨w3.heap.size, 1, none⟩ = some (.slice yra1 yrn1 yrc1) ∧ w'.cell? ⟨w3.heap.size, 2, none⟩ = some (.slice yra2 yrn2 yrc2) ∧ w'.cell? ⟨w3.heap.size, 3, none⟩ = some (.bool r.2.1.1) ∧ w'.cell? ⟨w3.heap.size, 4, none⟩ = some (.slice yra4 yrn4 yrc4) ∧ w'.cell? ⟨w3.heap.size, 5, none⟩ = some (.slice yra5 yrn5 yrc5) := fun w' h => ⟨box_keep h HByz' (HByk.1), box_keep h HByz' (HByk.2.1), box_keep h HByz' (HByk.2.2.1), box_keep h HByz' (HByk.2.2.2.1), box_keep h HByz' (HByk.2.2.2.2.1), box_keep h HByz' (HByk.2.2.2.2.2)⟩
  try clear HByz
  have HByz := HByz'; clear HByz' HByk
  have HBy_9 := HBy w9 (More.refl _)
  have HBys9 := HByz
  try clear HBx0_8
  try clear HBx0s8
  clear HBx0
  have HBx0 : ∀ w', More w9 w' → w'.rangeAt (w4.heap.size) 0 [.bool x.1.1.1, .slice x0za1 x0zn1 x0zc1, .slice x0za2 x0zn2 x0zc2, .bool x.2.1.1.1, .slice x0za4 x0zn4 x0zc4, .slice x0za5 x0zn5 x0zc5, .bool x.2.2.1.1.1, .slice x0za7 x0zn7 x0zc7, .slice x0za8 x0zn8 x0zc8, .bool x.2.2.2.1.1.1, .slice x0za10 x0zn10 x0zc10, .slice x0za11 x0zn11 x0zc11, .bool x.2.2.2.2.1.1.1, .slice x0za13 x0zn13 x0zc13, .slice x0za14 x0zn14 x0zc14, .bool x.2.2.2.2.2.1.1, .slice x0za16 x0zn16 x0zc16, .slice x0za17 x0zn17 x0zc17] := fun w' h => range_keep h HBx0z' HBx0k
  try clear HBx0z
  have HBx0z := HBx0z'; clear HBx0z' HBx0k
  have HBx0_9 := HBx0 w9 (More.refl _)
  have HBx0s9 := HBx0z
  try clear HBg_8
  try clear HBgs8
  clear HBg
  have HBg : ∀ w', More w9 w' → w'.cell? ⟨w5.heap.size, 0, none⟩ = some (.bool r.1.1.1) ∧ w'.cell? ⟨w5.heap.size, 1, none⟩ = some (.slice gra1 grn1 grc1) ∧ w'.cell? ⟨w5.heap.size, 2, none⟩ = some (.slice gra2 grn2 grc2) ∧ w'.cell? ⟨w5.heap.size, 3, none⟩ = some (.bool r.2.1.1) ∧ w'.cell? ⟨w5.heap.size, 4, none⟩ = some (.slice gra4 grn4 grc4) ∧ w'.cell? ⟨w5.heap.size, 5, none⟩ = some (.slice gra5 grn5 grc5) := fun w' h => ⟨box_keep h HBgz' (HBgk.1), box_keep h HBgz' (HBgk.2.1), box_keep h HBgz' (HBgk.2.2.1), box_keep h HBgz' (HBgk.2.2.2.1), box_keep h HBgz' (HBgk.2.2.2.2.1), box_keep h HBgz' (HBgk.2.2.2.2.2)⟩
  try clear HBgz
  have HBgz := HBgz'; clear HBgz' HBgk
  have HBg_9 := HBg w9 (More.refl _)
  have HBgs9 := HBgz
  have k9 : ¬ (1 + ((cCell x : Nat) : Int) < 0) := by omega
  go_wp2_with (first | (refine wpList_load_mid rfl _ _ rfl (W.heap.size) 0 rfl _ _ (HBa0 _ mC) Tryz.underlying58 rfl (by kernel_rfl) ?_) | (refine wpList_load_mid rfl _ _ rfl (w4.heap.size) 0 rfl _ _ (HBx0 _ mC) Tryz.underlying62 rfl (by kernel_rfl) ?_))
  refine (laws_eqPoint _ _ r _ (Ty.at_more (Ty.rd_at (tPoint.own_rd go9)) mC) (Ty.at_more (Ty.fresh_at Fy) mC) HrL.out).mono ?_
  rintro e w10 ⟨rfl, b10⟩
  have HBa0_10 := HBa0 w10 mC
  have HBa0s10 : W.heap.size < w10.heap.size := by have := More.size (show More w9 w10 from mC); have := HBa0z; omega
  try clear HBa0_9
  try clear HBa0s9
  have HBy_10 := HBy w10 mC
  have HBys10 : w3.heap.size < w10.heap.size := by have := More.size (show More w9 w10 from mC); have := HByz; omega
  try clear HBy_9
  try clear HBys9
  have HBx0_10 := HBx0 w10 mC
  have HBx0s10 : w4.heap.size < w10.heap.size := by have := More.size (show More w9 w10 from mC); have := HBx0z; omega
  try clear HBx0_9
  try clear HBx0s9
  have HBg_10 := HBg w10 mC
  have HBgs10 : w5.heap.size < w10.heap.size := by have := More.size (show More w9 w10 from mC); have := HBgz; omega
  try clear HBg_9
  try clear HBgs9
  go_wp2_with (first | (refine wpList_load_mid rfl _ _ rfl (W.heap.size) 0 rfl _ _ (HBa0 _ mC) Tryz.underlying58 rfl (by kernel_rfl) ?_) | (refine wpList_load_mid rfl _ _ rfl (w4.heap.size) 0 rfl _ _ (HBx0 _ mC) Tryz.underlying62 rfl (by kernel_rfl) ?_))
  refine (laws_markPoint_ bg _ r _ _ (Ty.own_more go9 mC) ng (by omega) (by have := HrC.out; omega) HrL.out).mono ?_
  rintro e w11 ⟨rfl, T11, M11⟩
  have HBa0z' : W.heap.size < w11.heap.size := Nat.lt_of_lt_of_le (Nat.lt_of_lt_of_le (show W.heap.size < (w9).heap.size from by exact HBa0z) (More.size (show More (w9) _ from mC))) T11.size
  have HBa0k : w11.rangeAt (W.heap.size) 0 [.bool x.1.1.1, .slice s0a1 s0n1 s0c1, .slice s0a2 s0n2 s0c2, .bool x.2.1.1.1, .slice s0a4 s0n4 s0c4, .slice s0a5 s0n5 s0c5, .bool x.2.2.1.1.1, .slice s0a7 s0n7 s0c7, .slice s0a8 s0n8 s0c8, .bool x.2.2.2.1.1.1, .slice s0a10 s0n10 s0c10, .slice s0a11 s0n11 s0c11, .bool x.2.2.2.2.1.1.1, .slice s0a13 s0n13 s0c13, .slice s0a14 s0n14 s0c14, .bool x.2.2.2.2.2.1.1, .slice s0a16 s0n16 s0c16, .slice s0a17 s0n17 s0c17] := range_turn T11 (Nat.lt_of_lt_of_le (show W.heap.size < (w9).heap.size from by exact HBa0z) (More.size (show More (w9) _ from mC))) (fun h => by have h1 := HBa0ltg _ h; omega) (HBa0 _ mC)
  have HByz' : w3.heap.size < w11.heap.size := Nat.lt_of_lt_of_le (Nat.lt_of_lt_of_le (show w3.heap.size < (w9).heap.size from by exact HByz) (More.size (show More (w9) _ from mC))) T11.size
  have HByk : w11.cell? ⟨w3.heap.size, 0, none⟩ = some (.bool r.1.1.1) ∧ w11.cell? ⟨w3.heap.size, 1, none⟩ = some (.slice yra1 yrn1 yrc1) ∧ w11.cell? ⟨w3.heap.size, 2, none⟩ = some (.slice yra2 yrn2 yrc2) ∧ w11.cell? ⟨w3.heap.size, 3, none⟩ = some (.bool r.2.1.1) ∧ w11.cell? ⟨w3.heap.size, 4, none⟩ = some (.slice yra4 yrn4 yrc4) ∧ w11.cell? ⟨w3.heap.size, 5, none⟩ = some (.slice yra5 yrn5 yrc5) := ⟨turn_cell T11 (Nat.lt_of_lt_of_le (show w3.heap.size < (w9).heap.size from by exact HByz) (More.size (show More (w9) _ from mC))) (fun h => by have h1 := HByltg _ h; omega) (HBy _ mC).1, turn_cell T11 (Nat.lt_of_lt_of_le (show w3.heap.size < (w9).heap.size from by exact HByz) (More.size (show More (w9) _ from mC))) (fun h => by have h1 := HByltg _ h; omega) (HBy _ mC).2.1, turn_cell T11 (Nat.lt_of_lt_of_le (show w3.heap.size < (w9).heap.size from by exact HByz) (More.size (show More (w9) _ from mC))) (fun h => by have h1 := HByltg _ h; omega) (HBy _ mC).2.2.1, turn_cell T11 (Nat.lt_of_lt_of_le (show w3.heap.size < (w9).heap.size from by exact HByz) (More.size (show More (w9) _ from mC))) (fun h => by have h1 := HByltg _ h; omega) (HBy _ mC).2.2.2.1, turn_cell T11 (Nat.lt_of_lt_of_le (show w3.heap.size < (w9).heap.size from by exact HByz) (More.size (show More (w9) _ from mC))) (fun h => by have h1 := HByltg _ h; omega) (HBy _ mC).2.2.2.2.1, turn_cell T11 (Nat.lt_of_lt_of_le (show w3.heap.size < (w9).heap.size from by exact HByz) (More.size (show More (w9) _ from mC))) (fun h => by have h1 := HByltg _ h; omega) (HBy _ mC).2.2.2.2.2⟩
  have HBx0z' : w4.heap.size < w11.heap.size := Nat.lt_of_lt_of_le (Nat.lt_of_lt_of_le (show w4.heap.size < (w9).heap.size from by exact HBx0z) (More.size (show More (w9) _ from mC))) T11.size
  have HBx0k : w11.rangeAt (w4.heap.size) 0 [.bool x.1.1.1, .slice x0za1 x0zn1 x0zc1, .slice x0za2 x0zn2 x0zc2, .bool x.2.1.1.1, .slice x0za4 x0zn4 x0zc4, .slice x0za5 x0zn5 x0zc5, .bool x.2.2.1.1.1, .slice x0za7 x0zn7 x0zc7, .slice x0za8 x0zn8 x0zc8, .bool x.2.2.2.1.1.1, .slice x0za10 x0zn10 x0zc10, .slice x0za11 x0zn11 x0zc11, .bool x.2.2.2.2.1.1.1, .slice x0za13 x0zn13 x0zc13, .slice x0za14 x0zn14 x0zc14, .bool x.2.2.2.2.2.1.1, .slice x0za16 x0zn16 x0zc16, .slice x0za17 x0zn17 x0zc17] := range_turn T11 (Nat.lt_of_lt_of_le (show w4.heap.size < (w9).heap.size from by exact HBx0z) (More.size (show More (w9) _ from mC))) (fun h => by have h1 := HBx0ltg _ h; omega) (HBx0 _ mC)
  have HBgz' : w5.heap.size < w11.heap.size := Nat.lt_of_lt_of_le (Nat.lt_of_lt_of_le (show w5.heap.size < (w9).heap.size from by exact HBgz) (More.size (show More (w9) _ from mC))) T11.size
  have HBgk : w11.cell? ⟨w5.heap.size, 0, none⟩ = some (.bool r.1.1.1) ∧ w11.cell? ⟨w5.heap.size, 1, none⟩ = some (.slice gra1 grn1 grc1) ∧ w11.cell? ⟨w5.heap.size, 2, none⟩ = some (.slice gra2 grn2 grc2) ∧ w11.cell? ⟨w5.heap.size, 3, none⟩ = some (.bool r.2.1.1) ∧ w11.cell? ⟨w5.heap.size, 4, none⟩ = some (.slice gra4 grn4 grc4) ∧ w11.cell? ⟨w5.heap.size, 5, none⟩ = some (.slice gra5 grn5 grc5) := ⟨turn_cell T11 (Nat.lt_of_lt_of_le (show w5.heap.size < (w9).heap.size from by exact HBgz) (More.size (show More (w9) _ from mC))) (fun h => by have h1 := HBggeg; have h2 := tPoint.own_lt G _ h; omega) (HBg _ mC).1, turn_cell T11 (Nat.lt_of_lt_of_le (show w5.heap.size < (w9).heap.size from by exact HBgz) (More.size (show More (w9) _ from mC))) (fun h => by have h1 := HBggeg; have h2 := tPoint.own_lt G _ h; omega) (HBg _ mC).2.1, turn_cell T11 (Nat.lt_of_lt_of_le (show w5.heap.size < (w9).heap.size from by exact HBgz) (More.size (show More (w9) _ from mC))) (fun h => by have h1 := HBggeg; have h2 := tPoint.own_lt G _ h; omega) (HBg _ mC).2.2.1, turn_cell T11 (Nat.lt_of_lt_of_le (show w5.heap.size < (w9).heap.size from by exact HBgz) (More.size (show More (w9) _ from mC))) (fun h => by have h1 := HBggeg; have h2 := tPoint.own_lt G _ h; omega) (HBg _ mC).2.2.2.1, turn_cell T11 (Nat.lt_of_lt_of_le (show w5.heap.size < (w9).heap.size from by exact HBgz) (More.size (show More (w9) _ from mC))) (fun h => by have h1 := HBggeg; have h2 := tPoint.own_lt G _ h; omega) (HBg _ mC).2.2.2.2.1, turn_cell T11 (Nat.lt_of_lt_of_le (show w5.heap.size < (w9).heap.size from by exact HBgz) (More.size (show More (w9) _ from mC))) (fun h => by have h1 := HBggeg; have h2 := tPoint.own_lt G _ h; omega) (HBg _ mC).2.2.2.2.2⟩
  have b11 := More.turn (b9.trans mC) T11 (fun k hk => Nat.le_trans (More.size (b4.trans mC)) (lg k hk))
  try clear HBa0_10
  try clear HBa0s10
  clear HBa0
  have HBa0 : ∀ w', More w11 w' → w'.rangeAt (W.heap.size) 0 [.bool x.1.1.1, .slice s0a1 s0n1 s0c1, .slice s0a2 s0n2 s0c2, .bool x.2.1.1.1, .slice s0a4 s0n4 s0c4, .slice s0a5 s0n5 s0c5, .bool x.2.2.1.1.1, .slice s0a7 s0n7 s0c7, .slice s0a8 s0n8 s0c8, .bool x.2.2.2.1.1.1, .slice s0a10 s0n10 s0c10, .slice s0a11 s0n11 s0c11, .bool x.2.2.2.2.1.1.1, .slice s0a13 s0n13 s0c13, .slice s0a14 s0n14 s0c14, .bool x.2.2.2.2.2.1.1, .slice s0a16 s0n16 s0c16, .slice s0a17 s0n17 s0c17] := fun w' h => range_keep h HBa0z' HBa0k
  try clear HBa0z
  have HBa0z := HBa0z'; clear HBa0z' HBa0k
  have HBa0_11 := HBa0 w11 (More.refl _)
  have HBa0s11 := HBa0z
  try clear HBy_10
  try clear HBys10
  clear HBy
  have HBy : ∀ w', More w11 w' → w'.cell? ⟨w3.heap.size, 0, none⟩ = some (.bool r.1.1.1) ∧ w'.cell? ⟨w3.heap.size, 1, none⟩ = some (.slice yra1 yrn1 yrc1) ∧ w'.cell? ⟨w3.heap.size, 2, none⟩ = some (.slice yra2 yrn2 yrc2) ∧ w'.cell? ⟨w3.heap.size, 3, none⟩ = some (.bool r.2.1.1) ∧ w'.cell? ⟨w3.heap.size, 4, none⟩ = some (.slice yra4 yrn4 yrc4) ∧ w'.cell? ⟨w3.heap.size, 5, none⟩ = some (.slice yra5 yrn5 yrc5) := fun w' h => ⟨box_keep h HByz' (HByk.1), box_keep h HByz' (HByk.2.1), box_keep h HByz' (HByk.2.2.1), box_keep h HByz' (HByk.2.2.2.1), box_keep h HByz' (HByk.2.2.2.2.1), box_keep h HByz' (HByk.2.2.2.2.2)⟩
  try clear HByz
  have HByz := HByz'; clear HByz' HByk
  have HBy_11 := HBy w11 (More.refl _)
  have HBys11 := HByz
  try clear HBx0_10
  try clear HBx0s10
  clear HBx0
  have HBx0 : ∀ w', More w11 w' → w'.rangeAt (w4.heap.size) 0 [.bool x.1.1.1, .slice x0za1 x0zn1 x0zc1, .slice x0za2 x0zn2 x0zc2, .bool x.2.1.1.1, .slice x0za4 x0zn4 x0zc4, .slice x0za5 x0zn5 x0zc5, .bool x.2.2.1.1.1, .slice x0za7 x0zn7 x0zc7, .slice x0za8 x0zn8 x0zc8, .bool x.2.2.2.1.1.1, .slice x0za10 x0zn10 x0zc10, .slice x0za11 x0zn11 x0zc11, .bool x.2.2.2.2.1.1.1, .slice x0za13 x0zn13 x0zc13, .slice x0za14 x0zn14 x0zc14, .bool x.2.2.2.2.2.1.1, .slice x0za16 x0zn16 x0zc16, .slice x0za17 x0zn17 x0zc17] := fun w' h => range_keep h HBx0z' HBx0k
  try clear HBx0z
  have HBx0z := HBx0z'; clear HBx0z' HBx0k
  have HBx0_11 := HBx0 w11 (More.refl _)
  have HBx0s11 := HBx0z
  try clear HBg_10
  try clear HBgs10
  clear HBg
  have HBg : ∀ w', More w11 w' → w'.cell? ⟨w5.heap.size, 0, none⟩ = some (.bool r.1.1.1) ∧ w'.cell? ⟨w5.heap.size, 1, none⟩ = some (.slice gra1 grn1 grc1) ∧ w'.cell? ⟨w5.heap.size, 2, none⟩ = some (.slice gra2 grn2 grc2) ∧ w'.cell? ⟨w5.heap.size, 3, none⟩ = some (.bool r.2.1.1) ∧ w'.cell? ⟨w5.heap.size, 4, none⟩ = some (.slice gra4 grn4 grc4) ∧ w'.cell? ⟨w5.heap.size, 5, none⟩ = some (.slice gra5 grn5 grc5) := fun w' h => ⟨box_keep h HBgz' (HBgk.1), box_keep h HBgz' (HBgk.2.1), box_keep h HBgz' (HBgk.2.2.1), box_keep h HBgz' (HBgk.2.2.2.1), box_keep h HBgz' (HBgk.2.2.2.2.1), box_keep h HBgz' (HBgk.2.2.2.2.2)⟩
  try clear HBgz
  have HBgz := HBgz'; clear HBgz' HBgk
  have HBg_11 := HBg w11 (More.refl _)
  have HBgs11 := HBgz
  go_wp2_with (first | (refine wpList_load_mid rfl _ _ rfl (W.heap.size) 0 rfl _ _ (HBa0 _ mC) Tryz.underlying58 rfl (by kernel_rfl) ?_) | (refine wpList_load_mid rfl _ _ rfl (w4.heap.size) 0 rfl _ _ (HBx0 _ mC) Tryz.underlying62 rfl (by kernel_rfl) ?_))
  refine (laws_heldPoint_ _ r _ _ (Ty.at_more (Ty.rd_at (tPoint.own_rd M11)) mC) (by decide) (by have := HrC.out; omega) HrL.out).mono ?_
  rintro e w12 ⟨rfl, b12⟩
  have HBa0_12 := HBa0 w12 mC
  have HBa0s12 : W.heap.size < w12.heap.size := by have := More.size (show More w11 w12 from mC); have := HBa0z; omega
  try clear HBa0_11
  try clear HBa0s11
  have HBy_12 := HBy w12 mC
  have HBys12 : w3.heap.size < w12.heap.size := by have := More.size (show More w11 w12 from mC); have := HByz; omega
  try clear HBy_11
  try clear HBys11
  have HBx0_12 := HBx0 w12 mC
  have HBx0s12 : w4.heap.size < w12.heap.size := by have := More.size (show More w11 w12 from mC); have := HBx0z; omega
  try clear HBx0_11
  try clear HBx0s11
  have HBg_12 := HBg w12 mC
  have HBgs12 : w5.heap.size < w12.heap.size := by have := More.size (show More w11 w12 from mC); have := HBgz; omega
  try clear HBg_11
  try clear HBgs11
  have q12 : ¬ ((1 : Int) + ((cPoint r : Nat) : Int) < 0) := by omega
  go_wp2_with (first | (refine wpList_load_mid rfl _ _ rfl (W.heap.size) 0 rfl _ _ (HBa0 _ mC) Tryz.underlying58 rfl (by kernel_rfl) ?_) | (refine wpList_load_mid rfl _ _ rfl (w4.heap.size) 0 rfl _ _ (HBx0 _ mC) Tryz.underlying62 rfl (by kernel_rfl) ?_))
  refine (laws_toCell _ x _ (Ty.at_more HV0.out mC) Hs0.out).mono ?_
  rintro e w13 ⟨z0, rfl, b13, Fz0⟩
  have HBa0_13 := HBa0 w13 mC
  have HBa0s13 : W.heap.size < w13.heap.size := by have := More.size (show More w11 w13 from mC); have := HBa0z; omega
  try clear HBa0_12
  try clear HBa0s12
  have HBy_13 := HBy w13 mC
  have HBys13 : w3.heap.size < w13.heap.size := by have := More.size (show More w11 w13 from mC); have := HByz; omega
  try clear HBy_12
  try clear HBys12
  have HBx0_13 := HBx0 w13 mC
  have HBx0s13 : w4.heap.size < w13.heap.size := by have := More.size (show More w11 w13 from mC); have := HBx0z; omega
  try clear HBx0_12
  try clear HBx0s12
  have HBg_13 := HBg w13 mC
  have HBgs13 : w5.heap.size < w13.heap.size := by have := More.size (show More w11 w13 from mC); have := HBgz; omega
  try clear HBg_12
  try clear HBgs12
  obtain ⟨z0za1, z0zn1, z0zc1, z0za2, z0zn2, z0zc2, z0za4, z0zn4, z0zc4, z0za5, z0zn5, z0zc5, z0za7, z0zn7, z0zc7, z0za8, z0zn8, z0zc8, z0za10, z0zn10, z0zc10, z0za11, z0zn11, z0zc11, z0za13, z0zn13, z0zc13, z0za14, z0zn14, z0zc14, z0za16, z0zn16, z0zc16, z0za17, z0zn17, z0zc17, rfl⟩ := sh_Cell (Ty.fresh_at Fz0)
  go_wp2_with (first | (refine wpList_load_mid rfl _ _ rfl (W.heap.size) 0 rfl _ _ (HBa0 _ mC) Tryz.underlying58 rfl (by kernel_rfl) ?_) | (refine wpList_load_mid rfl _ _ rfl (w4.heap.size) 0 rfl _ _ (HBx0 _ mC) Tryz.underlying62 rfl (by kernel_rfl) ?_))
  refine (impl_CenterOfL _ x _ (Ty.at_more (Ty.fresh_at Fz0) mC) Hs0.out).mono ?_
  rintro e w14 ⟨h, rfl, b14, Fh⟩
  rw [← ER.out] at Fh
  obtain ⟨hra1, hrn1, hrc1, hra2, hrn2, hrc2, hra4, hrn4, hrc4, hra5, hrn5, hrc5, rfl⟩ := sh_Point (Ty.fresh_at Fh)
  have HBa0_14 := HBa0 w14 mC
  have HBa0s14 : W.heap.size < w14.heap.size := by have := More.size (show More w11 w14 from mC); have := HBa0z; omega
  try clear HBa0_13
  try clear HBa0s13
  have HBy_14 := HBy w14 mC
  have HBys14 : w3.heap.size < w14.heap.size := by have := More.size (show More w11 w14 from mC); have := HByz; omega
  try clear HBy_13
  try clear HBys13
  have HBx0_14 := HBx0 w14 mC
  have HBx0s14 : w4.heap.size < w14.heap.size := by have := More.size (show More w11 w14 from mC); have := HBx0z; omega
  try clear HBx0_13
  try clear HBx0s13
  have HBg_14 := HBg w14 mC
  have HBgs14 : w5.heap.size < w14.heap.size := by have := More.size (show More w11 w14 from mC); have := HBgz; omega
  try clear HBg_13
  try clear HBgs13
  have HBh : ∀ w', More (w14.alloc (.cells #[.bool r.1.1.1, .slice hra1 hrn1 hrc1, .slice hra2 hrn2 hrc2, .bool r.2.1.1, .slice hra4 hrn4 hrc4, .slice hra5 hrn5 hrc5] 47)) w' → w'.cell? ⟨w14.heap.size, 0, none⟩ = some (.bool r.1.1.1) ∧ w'.cell? ⟨w14.heap.size, 1, none⟩ = some (.slice hra1 hrn1 hrc1) ∧ w'.cell? ⟨w14.heap.size, 2, none⟩ = some (.slice hra2 hrn2 hrc2) ∧ w'.cell? ⟨w14.heap.size, 3, none⟩ = some (.bool r.2.1.1) ∧ w'.cell? ⟨w14.heap.size, 4, none⟩ = some (.slice hra4 hrn4 hrc4) ∧ w'.cell? ⟨w14.heap.size, 5, none⟩ = some (.slice hra5 hrn5 hrc5) := fun w' h => ⟨box_new (by simp) h 0, box_new (by simp) h 1, box_new (by simp) h 2, box_new (by simp) h 3, box_new (by simp) h 4, box_new (by simp) h 5⟩
  go_wp2_with (first | (refine wpList_load_mid rfl _ _ rfl (W.heap.size) 0 rfl _ _ (HBa0 _ mC) Tryz.underlying58 rfl (by kernel_rfl) ?_) | (refine wpList_load_mid rfl _ _ rfl (w4.heap.size) 0 rfl _ _ (HBx0 _ mC) Tryz.underlying62 rfl (by kernel_rfl) ?_))
  refine (laws_eqPoint _ _ r _ (Ty.at_more (Ty.fresh_at Fh) mC) (Ty.at_more (Ty.fresh_at Fy) mC) HrL.out).mono ?_
  rintro e w15 ⟨rfl, b15⟩
  have HBa0_15 := HBa0 w15 mC
  have HBa0s15 : W.heap.size < w15.heap.size := by have := More.size (show More w11 w15 from mC); have := HBa0z; omega
  try clear HBa0_14
  try clear HBa0s14
  have HBy_15 := HBy w15 mC
  have HBys15 : w3.heap.size < w15.heap.size := by have := More.size (show More w11 w15 from mC); have := HByz; omega
  try clear HBy_14
  try clear HBys14
  have HBx0_15 := HBx0 w15 mC
  have HBx0s15 : w4.heap.size < w15.heap.size := by have := More.size (show More w11 w15 from mC); have := HBx0z; omega
  try clear HBx0_14
  try clear HBx0s14
  have HBg_15 := HBg w15 mC
  have HBgs15 : w5.heap.size < w15.heap.size := by have := More.size (show More w11 w15 from mC); have := HBgz; omega
  try clear HBg_14
  try clear HBgs14
  have HBh_15 := HBh w15 mC
  have HBhs15 : w14.heap.size < w15.heap.size := by have := More.size (show More (w14.alloc (.cells #[.bool r.1.1.1, .slice hra1 hrn1 hrc1, .slice hra2 hrn2 hrc2, .bool r.2.1.1, .slice hra4 hrn4 hrc4, .slice hra5 hrn5 hrc5] 47)) w15 from mC); simp at this; omega
  try clear HBh_14
  try clear HBhs14
  go_wp2_with (first | (refine wpList_load_mid rfl _ _ rfl (W.heap.size) 0 rfl _ _ (HBa0 _ mC) Tryz.underlying58 rfl (by kernel_rfl) ?_) | (refine wpList_load_mid rfl _ _ rfl (w4.heap.size) 0 rfl _ _ (HBx0 _ mC) Tryz.underlying62 rfl (by kernel_rfl) ?_))
  refine (laws_heldPoint_ _ r _ _ (Ty.at_more (Ty.rd_at (tPoint.own_rd M11)) mC) (by decide) (by have := HrC.out; omega) HrL.out).mono ?_
  rintro e w16 ⟨rfl, b16⟩
  have HBa0_16 := HBa0 w16 mC
  have HBa0s16 : W.heap.size < w16.heap.size := by have := More.size (show More w11 w16 from mC); have := HBa0z; omega
  try clear HBa0_15
  try clear HBa0s15
  have HBy_16 := HBy w16 mC
  have HBys16 : w3.heap.size < w16.heap.size := by have := More.size (show More w11 w16 from mC); have := HByz; omega
  try clear HBy_15
  try clear HBys15
  have HBx0_16 := HBx0 w16 mC
  have HBx0s16 : w4.heap.size < w16.heap.size := by have := More.size (show More w11 w16 from mC); have := HBx0z; omega
  try clear HBx0_15
  try clear HBx0s15
  have HBg_16 := HBg w16 mC
  have HBgs16 : w5.heap.size < w16.heap.size := by have := More.size (show More w11 w16 from mC); have := HBgz; omega
  try clear HBg_15
  try clear HBgs15
  have HBh_16 := HBh w16 mC
  have HBhs16 : w14.heap.size < w16.heap.size := by have := More.size (show More (w14.alloc (.cells #[.bool r.1.1.1, .slice hra1 hrn1 hrc1, .slice hra2 hrn2 hrc2, .bool r.2.1.1, .slice hra4 hrn4 hrc4, .slice hra5 hrn5 hrc5] 47)) w16 from mC); simp at this; omega
  try clear HBh_15
  try clear HBhs15
  have q16 : ¬ ((1 : Int) + ((cPoint r : Nat) : Int) < 0) := by omega
  go_wp2_with (first | (refine wpList_load_mid rfl _ _ rfl (W.heap.size) 0 rfl _ _ (HBa0 _ mC) Tryz.underlying58 rfl (by kernel_rfl) ?_) | (refine wpList_load_mid rfl _ _ rfl (w4.heap.size) 0 rfl _ _ (HBx0 _ mC) Tryz.underlying62 rfl (by kernel_rfl) ?_))
  go_ret
  exact ⟨rfl, mC⟩
end Go.Proofs.YteihkhniibncnaaGreat
