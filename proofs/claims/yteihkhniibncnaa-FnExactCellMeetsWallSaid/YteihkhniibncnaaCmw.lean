/- Cells and walls that meet. -/
import Derived.Test.YteihkhniibncnaaThn
import Derived.Test.YteihkhniibncnaaCsd
import Derived.Test.YteihkhniibncnaaCel
import Derived.Test.YteihkhniibncnaaWal
import Derived.Test.YteihkhniibncnaaMm
import Derived.Test.YteihkhniibncnaaMan
namespace Go.Proofs.Yteihkhniibncnaa
open Go.RowKit
noncomputable def cmwB (k : QCell) (n : QWall) : Bool := (csF k n.1).2.2 && decide (rCmp (maxQ (csF k n.1).1 n.2.1) (minQ (csF k n.1).2.1 n.2.2) < 0)
noncomputable def cellMeetsB (k : QCell) (n : QWall) : Bool := cellB k && (wallB n && cmwB k n)
theorem cellB_parts {k1 k2 k3 k4 k5 k6 : QR} (h : cellB (k1, k2, k3, k4, k5, k6) = true) : ratOkB k1 = true ∧ ratOkB k2 = true ∧ ratOkB k3 = true ∧ ratOkB k4 = true ∧ ratOkB k5 = true ∧ ratOkB k6 = true := by
  unfold cellB at h
  simp only [List.all_cons, List.all_nil, Bool.and_true, Bool.and_eq_true] at h
  exact ⟨h.1.1, h.1.2.1, h.1.2.2.1, h.1.2.2.2.1, h.1.2.2.2.2.1, h.1.2.2.2.2.2⟩
theorem wallB_split {p q r : QR} (h : wallB (p, q, r) = true) : ratOkB p = true ∧ ratOkB q = true ∧ ratOkB r = true := by
  unfold wallB at h
  simp only [List.all_cons, List.all_nil, Bool.and_true, Bool.and_eq_true] at h
  exact ⟨h.1.1, h.1.2.1, h.1.2.2⟩
set_option maxRecDepth 8000 in
set_option maxHeartbeats 12800000 in
theorem impl_cellMeetsWall (cs0 : List Value) (m1 m2 m3 m4 m5 m6 : QR) (cs1 : List Value) (n1 n2 n3 : QR) (w : World) (hv0 : tCell.at w cs0 (m1, m2, m3, m4, m5, m6)) (hw0 : wCell (m1, m2, m3, m4, m5, m6) ≤ 1048576) (hv1 : tWall.at w cs1 (n1, n2, n3)) (hw1 : wWall (n1, n2, n3) ≤ 1048576) (km1 : ratOkB m1 = true) (km2 : ratOkB m2 = true) (km3 : ratOkB m3 = true) (km4 : ratOkB m4 = true) (km5 : ratOkB m5 = true) (km6 : ratOkB m6 = true) (kn1 : ratOkB n1 = true) (kn2 : ratOkB n2 = true) (kn3 : ratOkB n3 = true) :
    Calls Try.prog 96 #[.agg cs0.toArray, .agg cs1.toArray] w fun e w' => e = .returned (.bool (cmwB (m1, m2, m3, m4, m5, m6) (n1, n2, n3))) ∧ More w w' := by
  obtain ⟨k0, d0, rfl, f0, e0⟩ := at_prod hv0
  obtain ⟨k1, d1, rfl, f1, e1⟩ := at_prod e0
  obtain ⟨k2, d2, rfl, f2, e2⟩ := at_prod e1
  obtain ⟨k3, d3, rfl, f3, e3⟩ := at_prod e2
  obtain ⟨k4, d4, rfl, f4, e4⟩ := at_prod e3
  have f5 := e4; clear e4
  have f0 : tRat.at w _ m1 := f0
  obtain ⟨m1a, m1n, m1c, m1d, m1m, m1e, rfl⟩ := sh_Rat f0
  have Hm1 := Lib.hid f0; clear f0
  try clear f0
  have Wm1 : Hid (wRat m1 ≤ 1048576) := Lib.hid (by have h := hw0; unfold wCell at h; dsimp only at h; omega)
  have f1 : tRat.at w _ m2 := f1
  obtain ⟨m2a, m2n, m2c, m2d, m2m, m2e, rfl⟩ := sh_Rat f1
  have Hm2 := Lib.hid f1; clear f1
  try clear f1
  have Wm2 : Hid (wRat m2 ≤ 1048576) := Lib.hid (by have h := hw0; unfold wCell at h; dsimp only at h; omega)
  have f2 : tRat.at w _ m3 := f2
  obtain ⟨m3a, m3n, m3c, m3d, m3m, m3e, rfl⟩ := sh_Rat f2
  have Hm3 := Lib.hid f2; clear f2
  try clear f2
  have Wm3 : Hid (wRat m3 ≤ 1048576) := Lib.hid (by have h := hw0; unfold wCell at h; dsimp only at h; omega)
  have f3 : tRat.at w _ m4 := f3
  obtain ⟨m4a, m4n, m4c, m4d, m4m, m4e, rfl⟩ := sh_Rat f3
  have Hm4 := Lib.hid f3; clear f3
  try clear f3
  have Wm4 : Hid (wRat m4 ≤ 1048576) := Lib.hid (by have h := hw0; unfold wCell at h; dsimp only at h; omega)
  have f4 : tRat.at w _ m5 := f4
  obtain ⟨m5a, m5n, m5c, m5d, m5m, m5e, rfl⟩ := sh_Rat f4
  have Hm5 := Lib.hid f4; clear f4
  try clear f4
  have Wm5 : Hid (wRat m5 ≤ 1048576) := Lib.hid (by have h := hw0; unfold wCell at h; dsimp only at h; omega)
  have f5 : tRat.at w _ m6 := f5
  obtain ⟨m6a, m6n, m6c, m6d, m6m, m6e, rfl⟩ := sh_Rat f5
  have Hm6 := Lib.hid f5; clear f5
  try clear f5
  have Wm6 : Hid (wRat m6 ≤ 1048576) := Lib.hid (by have h := hw0; unfold wCell at h; dsimp only at h; omega)
  try clear e0 e1 e2 e3 e4 e5
  have HV0 : Hid (tCell.at w [.bool m1.1.1, .slice m1a m1n m1c, .slice m1d m1m m1e, .bool m2.1.1, .slice m2a m2n m2c, .slice m2d m2m m2e, .bool m3.1.1, .slice m3a m3n m3c, .slice m3d m3m m3e, .bool m4.1.1, .slice m4a m4n m4c, .slice m4d m4m m4e, .bool m5.1.1, .slice m5a m5n m5c, .slice m5d m5m m5e, .bool m6.1.1, .slice m6a m6n m6c, .slice m6d m6m m6e] (m1, m2, m3, m4, m5, m6)) := Lib.hid hv0; have HW0 := Lib.hid hw0; clear hv0 hw0
  obtain ⟨k0, d0, rfl, f0, e0⟩ := at_prod hv1
  obtain ⟨k1, d1, rfl, f1, e1⟩ := at_prod e0
  have f2 := e1; clear e1
  have f0 : tRat.at w _ n1 := f0
  obtain ⟨n1a, n1n, n1c, n1d, n1m, n1e, rfl⟩ := sh_Rat f0
  have Hn1 := Lib.hid f0; clear f0
  try clear f0
  have Wn1 : Hid (wRat n1 ≤ 1048576) := Lib.hid (by have h := hw1; unfold wWall at h; dsimp only at h; omega)
  have f1 : tRat.at w _ n2 := f1
  obtain ⟨n2a, n2n, n2c, n2d, n2m, n2e, rfl⟩ := sh_Rat f1
  have Hn2 := Lib.hid f1; clear f1
  try clear f1
  have Wn2 : Hid (wRat n2 ≤ 1048576) := Lib.hid (by have h := hw1; unfold wWall at h; dsimp only at h; omega)
  have f2 : tRat.at w _ n3 := f2
  obtain ⟨n3a, n3n, n3c, n3d, n3m, n3e, rfl⟩ := sh_Rat f2
  have Hn3 := Lib.hid f2; clear f2
  try clear f2
  have Wn3 : Hid (wRat n3 ≤ 1048576) := Lib.hid (by have h := hw1; unfold wWall at h; dsimp only at h; omega)
  try clear e0 e1 e2
  have HV1 : Hid (tWall.at w [.bool n1.1.1, .slice n1a n1n n1c, .slice n1d n1m n1e, .bool n2.1.1, .slice n2a n2n n2c, .slice n2d n2m n2e, .bool n3.1.1, .slice n3a n3n n3c, .slice n3d n3m n3e] (n1, n2, n3)) := Lib.hid hv1; have HW1 := Lib.hid hw1; clear hv1 hw1
  show Calls Try.prog 96 #[.agg #[.bool m1.1.1, .slice m1a m1n m1c, .slice m1d m1m m1e, .bool m2.1.1, .slice m2a m2n m2c, .slice m2d m2m m2e, .bool m3.1.1, .slice m3a m3n m3c, .slice m3d m3m m3e, .bool m4.1.1, .slice m4a m4n m4c, .slice m4d m4m m4e, .bool m5.1.1, .slice m5a m5n m5c, .slice m5d m5m m5e, .bool m6.1.1, .slice m6a m6n m6c, .slice m6d m6m m6e], .agg #[.bool n1.1.1, .slice n1a n1n n1c, .slice n1d n1m n1e, .bool n2.1.1, .slice n2a n2n n2c, .slice n2d n2m n2e, .bool n3.1.1, .slice n3a n3n n3c, .slice n3d n3m n3e]] w _
  have Km1 := Lib.hid km1; clear km1
  have Km2 := Lib.hid km2; clear km2
  have Km3 := Lib.hid km3; clear km3
  have Km4 := Lib.hid km4; clear km4
  have Km5 := Lib.hid km5; clear km5
  have Km6 := Lib.hid km6; clear km6
  have Kn1 := Lib.hid kn1; clear kn1
  have Kn2 := Lib.hid kn2; clear kn2
  have Kn3 := Lib.hid kn3; clear kn3
  obtain ⟨⟨lo, hi, ok⟩, hcs⟩ : ∃ r, csF (m1, m2, m3, m4, m5, m6) n1 = r := ⟨_, rfl⟩
  have HCS := Lib.hid hcs
  have hw9 := csF_w hcs HW0.out
  have Wlo := Lib.hid hw9.1; have Whi := Lib.hid hw9.2; clear hw9
  have HCM : Hid (cmwB (m1, m2, m3, m4, m5, m6) (n1, n2, n3) = (ok && decide (rCmp (maxQ lo n2) (minQ hi n3) < 0))) := Lib.hid (by unfold cmwB; dsimp only; rw [hcs])
  clear hcs
  rw [HCM.out]
  clear HCM
  cases ok
  · skip
    have HX := More.refl ((w.alloc (.cells #[.bool m1.1.1, .slice m1a m1n m1c, .slice m1d m1m m1e, .bool m2.1.1, .slice m2a m2n m2c, .slice m2d m2m m2e, .bool m3.1.1, .slice m3a m3n m3c, .slice m3d m3m m3e, .bool m4.1.1, .slice m4a m4n m4c, .slice m4d m4m m4e, .bool m5.1.1, .slice m5a m5n m5c, .slice m5d m5m m5e, .bool m6.1.1, .slice m6a m6n m6c, .slice m6d m6m m6e] 37)).alloc (.cells #[.bool n1.1.1, .slice n1a n1n n1c, .slice n1d n1m n1e, .bool n2.1.1, .slice n2a n2n n2c, .slice n2d n2m n2e, .bool n3.1.1, .slice n3a n3n n3c, .slice n3d n3m n3e] 87))
    have HB := fun (w' : World) (h : More ((w.alloc (.cells #[.bool m1.1.1, .slice m1a m1n m1c, .slice m1d m1m m1e, .bool m2.1.1, .slice m2a m2n m2c, .slice m2d m2m m2e, .bool m3.1.1, .slice m3a m3n m3c, .slice m3d m3m m3e, .bool m4.1.1, .slice m4a m4n m4c, .slice m4d m4m m4e, .bool m5.1.1, .slice m5a m5n m5c, .slice m5d m5m m5e, .bool m6.1.1, .slice m6a m6n m6c, .slice m6d m6m m6e] 37)).alloc (.cells #[.bool n1.1.1, .slice n1a n1n n1c, .slice n1d n1m n1e, .bool n2.1.1, .slice n2a n2n n2c, .slice n2d n2m n2e, .bool n3.1.1, .slice n3a n3n n3c, .slice n3d n3m n3e] 87)) w') => And.intro (bx18 (w.heap.size) (by simp) (More.un h)) (bx9 (w.heap.size + 1) (by simp) h)
    have HC := fun (w' : World) (h : Turns [] _ w') => HB w' (Turns.more h)
    have HRK : ∀ w', More ((w.alloc (.cells #[.bool m1.1.1, .slice m1a m1n m1c, .slice m1d m1m m1e, .bool m2.1.1, .slice m2a m2n m2c, .slice m2d m2m m2e, .bool m3.1.1, .slice m3a m3n m3c, .slice m3d m3m m3e, .bool m4.1.1, .slice m4a m4n m4c, .slice m4d m4m m4e, .bool m5.1.1, .slice m5a m5n m5c, .slice m5d m5m m5e, .bool m6.1.1, .slice m6a m6n m6c, .slice m6d m6m m6e] 37)).alloc (.cells #[.bool n1.1.1, .slice n1a n1n n1c, .slice n1d n1m n1e, .bool n2.1.1, .slice n2a n2n n2c, .slice n2d n2m n2e, .bool n3.1.1, .slice n3a n3n n3c, .slice n3d n3m n3e] 87)) w' → w'.rangeAt (w.heap.size) 0 [.bool m1.1.1, .slice m1a m1n m1c, .slice m1d m1m m1e, .bool m2.1.1, .slice m2a m2n m2c, .slice m2d m2m m2e, .bool m3.1.1, .slice m3a m3n m3c, .slice m3d m3m m3e, .bool m4.1.1, .slice m4a m4n m4c, .slice m4d m4m m4e, .bool m5.1.1, .slice m5a m5n m5c, .slice m5d m5m m5e, .bool m6.1.1, .slice m6a m6n m6c, .slice m6d m6m m6e] := fun w' h => box_range (by simp) (More.un h)
    go_enter Try.func96, Try.ntmps96
    go_upto_region 2 with (first | (refine wpList_load_mid rfl _ _ rfl (w.heap.size) 0 rfl _ _ (HRK _ mC) Try.underlying37 rfl (by kernel_rfl) ?_) | (refine wpList_load_midG rfl _ _ rfl (w.heap.size) 0 rfl _ _ (HRK _ mC) Try.underlying37 rfl (by kernel_rfl) ?_) | (go_at_call 13; (with_reducible refine (impl_CellSide _ m1 m2 m3 m4 m5 m6 _ n1 lo hi _ _ (Ty.at_more HV0.out mC) HW0.out (Ty.at_more Hn1.out mC) Wn1.out HCS.out).mono ?_); rintro e w1 ⟨ua, va, ub, vb, rfl, hb1, f1⟩; obtain ⟨j1, j2, ej, jf, je⟩ := at_prod (Ty.fresh_at f1); obtain ⟨loa, lon, loc, lod, lom, loe, rfl⟩ := sh_Rat jf; obtain ⟨hia, hin, hic, hid, him, hie, rfl⟩ := sh_Rat je; simp only [List.cons_append, List.nil_append, List.cons.injEq, and_true, true_and] at ej; obtain ⟨q1, q2, q3, q4⟩ := ej; subst q1; subst q2; subst q3; subst q4; have Hlo := Lib.hid jf; have Hhi := Lib.hid je; clear f1 jf je; have HX1 := More.trans HX (show More _ w1 from mC); have HB1 := HB _ HX1; have hz1 := More.size HX1; (try simp at hz1); have hb1 := hb1))
    obtain ⟨w2, hW2⟩ : ∃ q9, ((w1.alloc (.cells #[.bool lo.1.1, .slice loa lon loc, .slice lod lom loe] 33)).alloc (.cells #[.bool hi.1.1, .slice hia hin hic, .slice hid him hie] 33)) = q9 := ⟨_, rfl⟩
    have hm2 : More ((w.alloc (.cells #[.bool m1.1.1, .slice m1a m1n m1c, .slice m1d m1m m1e, .bool m2.1.1, .slice m2a m2n m2c, .slice m2d m2m m2e, .bool m3.1.1, .slice m3a m3n m3c, .slice m3d m3m m3e, .bool m4.1.1, .slice m4a m4n m4c, .slice m4d m4m m4e, .bool m5.1.1, .slice m5a m5n m5c, .slice m5d m5m m5e, .bool m6.1.1, .slice m6a m6n m6c, .slice m6d m6m m6e] 37)).alloc (.cells #[.bool n1.1.1, .slice n1a n1n n1c, .slice n1d n1m n1e, .bool n2.1.1, .slice n2a n2n n2c, .slice n2d n2m n2e, .bool n3.1.1, .slice n3a n3n n3c, .slice n3d n3m n3e] 87)) w2 := by rw [← hW2]; exact mC
    have hB1 : Box3 w2 (w1.heap.size) (.bool lo.1.1) (.slice loa lon loc) (.slice lod lom loe) := by rw [← hW2]; exact Box3.new (X := w1) rfl (More.un (More.refl _))
    have hB2 : Box3 w2 (w1.heap.size + 1) (.bool hi.1.1) (.slice hia hin hic) (.slice hid him hie) := by rw [← hW2]; exact Box3.new (X := w1.alloc (.cells #[.bool lo.1.1, .slice loa lon loc, .slice lod lom loe] 33)) (by simp) (More.refl _)
    have hn1 := More.size HX1
    have hn2 : ((w.alloc (.cells #[.bool m1.1.1, .slice m1a m1n m1c, .slice m1d m1m m1e, .bool m2.1.1, .slice m2a m2n m2c, .slice m2d m2m m2e, .bool m3.1.1, .slice m3a m3n m3c, .slice m3d m3m m3e, .bool m4.1.1, .slice m4a m4n m4c, .slice m4d m4m m4e, .bool m5.1.1, .slice m5a m5n m5c, .slice m5d m5m m5e, .bool m6.1.1, .slice m6a m6n m6c, .slice m6d m6m m6e] 37)).alloc (.cells #[.bool n1.1.1, .slice n1a n1n n1c, .slice n1d n1m n1e, .bool n2.1.1, .slice n2a n2n n2c, .slice n2d n2m n2e, .bool n3.1.1, .slice n3a n3n n3c, .slice n3d n3m n3e] 87)).heap.size ≤ w1.heap.size + 1 := by have h9 := More.size HX1; omega
    have h12 : More w1 w2 := by rw [← hW2]; exact Turns.more (((Turns.refl [] _).alloc _).alloc _)
    rw [hW2]
    clear hW2
    have HC' := HC
    clear HC
    have HC := fun (w' : World) (h : Turns [] w2 w') => And.intro (HC' w' ((More.turns hm2 _).trans h)) (hB1.turn h (by simp))
    have HB' := HB
    clear HB HX
    have HB := fun (w' : World) (h : More w2 w') => And.intro (HB' w' (More.trans hm2 h)) (And.intro ((hB1.keep h).turn (More.turns (More.refl _) []) (by simp)) (hB1.keep h).fr)
    have HC' := HC
    clear HC
    have HC := fun (w' : World) (h : Turns [] w2 w') => And.intro (HC' w' ((More.turns (More.refl _) _).trans h)) (hB2.turn h (by simp))
    have HB' := HB
    clear HB
    have HB := fun (w' : World) (h : More w2 w') => And.intro (HB' w' (More.trans (More.refl _) h)) (And.intro ((hB2.keep h).turn (More.turns (More.refl _) []) (by simp)) (hB2.keep h).fr)
    have HBd := HB _ (More.refl _)
    clear hm2
    go_wp2_with fail
    refine wp_region_held_drew (S := (fun w' => Turns [] w2 w')) (by kernel_rfl) ?_ (fun hHeld => ?_)
    · first | exact tC | exact mC2
    refine tk (v := ?_) 0 ⟨some 16, _, _, _, _, _⟩ rfl ?_ ?_
    rotate_left 2
    · (intro w hSw; (try dsimp only at hSw); go_simp; (try with_reducible rfl))
    (try simp only [Act.put, tkA, tkB, tkC])
    refine tk (v := ?_) 1 ⟨some 17, _, _, _, _, _⟩ rfl ?_ ?_
    rotate_left 2
    · (intro w hSw; (try dsimp only at hSw); go_simp; (try with_reducible rfl))
    (try simp only [Act.put, tkA, tkB, tkC])
    refine tk0 2 ⟨some 18, _, _, _, _, _⟩ rfl ?_
    (try simp only [Act.put, tkA, tkB, tkC])
    refine tk0 3 ⟨some 19, _, _, _, _, _⟩ rfl ?_
    (try simp only [Act.put, tkA, tkB, tkC])
    refine tk0 4 ⟨some 20, _, _, _, _, _⟩ rfl ?_
    (try simp only [Act.put, tkA, tkB, tkC])
    refine tk0 5 ⟨some 21, _, _, _, _, _⟩ rfl ?_
    (try simp only [Act.put, tkA, tkB, tkC])
    refine tk0 6 ⟨some 22, _, _, _, _, _⟩ rfl ?_
    (try simp only [Act.put, tkA, tkB, tkC])
    refine tk0 7 ⟨some 23, _, _, _, _, _⟩ rfl ?_
    (try simp only [Act.put, tkA, tkB, tkC])
    refine tk0 8 ⟨some 24, _, _, _, _, _⟩ rfl ?_
    (try simp only [Act.put, tkA, tkB, tkC])
    refine tk0 9 ⟨some 25, _, _, _, _, _⟩ rfl ?_
    (try simp only [Act.put, tkA, tkB, tkC])
    refine tk0 10 ⟨some 26, _, _, _, _, _⟩ rfl ?_
    (try simp only [Act.put, tkA, tkB, tkC])
    refine tk0 11 ⟨some 27, _, _, _, _, _⟩ rfl ?_
    (try simp only [Act.put, tkA, tkB, tkC])
    refine tk (v := ?_) 12 ⟨some 28, _, _, _, _, _⟩ rfl ?_ ?_
    rotate_left 2
    · (intro w hSw; (try dsimp only at hSw); go_simp; (try with_reducible rfl))
    (try simp only [Act.put, tkA, tkB, tkC])
    refine tk (v := ?_) 13 ⟨some 4, _, _, _, _, _⟩ rfl ?_ ?_
    rotate_left 2
    · (intro w hSw; (try dsimp only at hSw); go_simp; (try with_reducible rfl))
    (try simp only [Act.put, tkA, tkB, tkC])
    refine wpAnyH_done (by kernel_rfl) ?_ _
    go_wp2_with fail
    go_ret
    exact ⟨ret_bool (by simp), mC⟩
  have ho := csF_parts (P := fun x => ratOkB x = true) HCS.out Km3.out Km4.out Km5.out Km6.out
  have Klo := Lib.hid ho.1; have Khi := Lib.hid ho.2; clear ho
  have KMmaxlon2 := Lib.hid (maxQ_ok Klo.out Kn2.out); have WMmaxlon2 := Lib.hid (maxQ_w Wlo.out Wn2.out)
  have KMminhin3 := Lib.hid (minQ_ok Khi.out Kn3.out); have WMminhin3 := Lib.hid (minQ_w Whi.out Wn3.out)
  obtain ⟨c0, hc0⟩ : ∃ c, rCmp (maxQ lo n2) (minQ hi n3) = c := ⟨_, rfl⟩
  have C := Lib.hid hc0; clear hc0
  rw [C.out]
  have HX := More.refl ((w.alloc (.cells #[.bool m1.1.1, .slice m1a m1n m1c, .slice m1d m1m m1e, .bool m2.1.1, .slice m2a m2n m2c, .slice m2d m2m m2e, .bool m3.1.1, .slice m3a m3n m3c, .slice m3d m3m m3e, .bool m4.1.1, .slice m4a m4n m4c, .slice m4d m4m m4e, .bool m5.1.1, .slice m5a m5n m5c, .slice m5d m5m m5e, .bool m6.1.1, .slice m6a m6n m6c, .slice m6d m6m m6e] 37)).alloc (.cells #[.bool n1.1.1, .slice n1a n1n n1c, .slice n1d n1m n1e, .bool n2.1.1, .slice n2a n2n n2c, .slice n2d n2m n2e, .bool n3.1.1, .slice n3a n3n n3c, .slice n3d n3m n3e] 87))
  have HB := fun (w' : World) (h : More ((w.alloc (.cells #[.bool m1.1.1, .slice m1a m1n m1c, .slice m1d m1m m1e, .bool m2.1.1, .slice m2a m2n m2c, .slice m2d m2m m2e, .bool m3.1.1, .slice m3a m3n m3c, .slice m3d m3m m3e, .bool m4.1.1, .slice m4a m4n m4c, .slice m4d m4m m4e, .bool m5.1.1, .slice m5a m5n m5c, .slice m5d m5m m5e, .bool m6.1.1, .slice m6a m6n m6c, .slice m6d m6m m6e] 37)).alloc (.cells #[.bool n1.1.1, .slice n1a n1n n1c, .slice n1d n1m n1e, .bool n2.1.1, .slice n2a n2n n2c, .slice n2d n2m n2e, .bool n3.1.1, .slice n3a n3n n3c, .slice n3d n3m n3e] 87)) w') => And.intro (bx18 (w.heap.size) (by simp) (More.un h)) (bx9 (w.heap.size + 1) (by simp) h)
  have HC := fun (w' : World) (h : Turns [] _ w') => HB w' (Turns.more h)
  have HRK : ∀ w', More ((w.alloc (.cells #[.bool m1.1.1, .slice m1a m1n m1c, .slice m1d m1m m1e, .bool m2.1.1, .slice m2a m2n m2c, .slice m2d m2m m2e, .bool m3.1.1, .slice m3a m3n m3c, .slice m3d m3m m3e, .bool m4.1.1, .slice m4a m4n m4c, .slice m4d m4m m4e, .bool m5.1.1, .slice m5a m5n m5c, .slice m5d m5m m5e, .bool m6.1.1, .slice m6a m6n m6c, .slice m6d m6m m6e] 37)).alloc (.cells #[.bool n1.1.1, .slice n1a n1n n1c, .slice n1d n1m n1e, .bool n2.1.1, .slice n2a n2n n2c, .slice n2d n2m n2e, .bool n3.1.1, .slice n3a n3n n3c, .slice n3d n3m n3e] 87)) w' → w'.rangeAt (w.heap.size) 0 [.bool m1.1.1, .slice m1a m1n m1c, .slice m1d m1m m1e, .bool m2.1.1, .slice m2a m2n m2c, .slice m2d m2m m2e, .bool m3.1.1, .slice m3a m3n m3c, .slice m3d m3m m3e, .bool m4.1.1, .slice m4a m4n m4c, .slice m4d m4m m4e, .bool m5.1.1, .slice m5a m5n m5c, .slice m5d m5m m5e, .bool m6.1.1, .slice m6a m6n m6c, .slice m6d m6m m6e] := fun w' h => box_range (by simp) (More.un h)
  go_enter Try.func96, Try.ntmps96
  go_upto_region 2 with (first | (refine wpList_load_mid rfl _ _ rfl (w.heap.size) 0 rfl _ _ (HRK _ mC) Try.underlying37 rfl (by kernel_rfl) ?_) | (refine wpList_load_midG rfl _ _ rfl (w.heap.size) 0 rfl _ _ (HRK _ mC) Try.underlying37 rfl (by kernel_rfl) ?_) | (go_at_call 13; (with_reducible refine (impl_CellSide _ m1 m2 m3 m4 m5 m6 _ n1 lo hi _ _ (Ty.at_more HV0.out mC) HW0.out (Ty.at_more Hn1.out mC) Wn1.out HCS.out).mono ?_); rintro e w1 ⟨ua, va, ub, vb, rfl, hb1, f1⟩; obtain ⟨j1, j2, ej, jf, je⟩ := at_prod (Ty.fresh_at f1); obtain ⟨loa, lon, loc, lod, lom, loe, rfl⟩ := sh_Rat jf; obtain ⟨hia, hin, hic, hid, him, hie, rfl⟩ := sh_Rat je; simp only [List.cons_append, List.nil_append, List.cons.injEq, and_true, true_and] at ej; obtain ⟨q1, q2, q3, q4⟩ := ej; subst q1; subst q2; subst q3; subst q4; have Hlo := Lib.hid jf; have Hhi := Lib.hid je; clear f1 jf je; have HX1 := More.trans HX (show More _ w1 from mC); have HB1 := HB _ HX1; have hz1 := More.size HX1; (try simp at hz1); have hb1 := hb1))
  obtain ⟨w2, hW2⟩ : ∃ q9, ((w1.alloc (.cells #[.bool lo.1.1, .slice loa lon loc, .slice lod lom loe] 33)).alloc (.cells #[.bool hi.1.1, .slice hia hin hic, .slice hid him hie] 33)) = q9 := ⟨_, rfl⟩
  have hm2 : More ((w.alloc (.cells #[.bool m1.1.1, .slice m1a m1n m1c, .slice m1d m1m m1e, .bool m2.1.1, .slice m2a m2n m2c, .slice m2d m2m m2e, .bool m3.1.1, .slice m3a m3n m3c, .slice m3d m3m m3e, .bool m4.1.1, .slice m4a m4n m4c, .slice m4d m4m m4e, .bool m5.1.1, .slice m5a m5n m5c, .slice m5d m5m m5e, .bool m6.1.1, .slice m6a m6n m6c, .slice m6d m6m m6e] 37)).alloc (.cells #[.bool n1.1.1, .slice n1a n1n n1c, .slice n1d n1m n1e, .bool n2.1.1, .slice n2a n2n n2c, .slice n2d n2m n2e, .bool n3.1.1, .slice n3a n3n n3c, .slice n3d n3m n3e] 87)) w2 := by rw [← hW2]; exact mC
  have hB1 : Box3 w2 (w1.heap.size) (.bool lo.1.1) (.slice loa lon loc) (.slice lod lom loe) := by rw [← hW2]; exact Box3.new (X := w1) rfl (More.un (More.refl _))
  have hB2 : Box3 w2 (w1.heap.size + 1) (.bool hi.1.1) (.slice hia hin hic) (.slice hid him hie) := by rw [← hW2]; exact Box3.new (X := w1.alloc (.cells #[.bool lo.1.1, .slice loa lon loc, .slice lod lom loe] 33)) (by simp) (More.refl _)
  have hn1 := More.size HX1
  have hn2 : ((w.alloc (.cells #[.bool m1.1.1, .slice m1a m1n m1c, .slice m1d m1m m1e, .bool m2.1.1, .slice m2a m2n m2c, .slice m2d m2m m2e, .bool m3.1.1, .slice m3a m3n m3c, .slice m3d m3m m3e, .bool m4.1.1, .slice m4a m4n m4c, .slice m4d m4m m4e, .bool m5.1.1, .slice m5a m5n m5c, .slice m5d m5m m5e, .bool m6.1.1, .slice m6a m6n m6c, .slice m6d m6m m6e] 37)).alloc (.cells #[.bool n1.1.1, .slice n1a n1n n1c, .slice n1d n1m n1e, .bool n2.1.1, .slice n2a n2n n2c, .slice n2d n2m n2e, .bool n3.1.1, .slice n3a n3n n3c, .slice n3d n3m n3e] 87)).heap.size ≤ w1.heap.size + 1 := by have h9 := More.size HX1; omega
  have h12 : More w1 w2 := by rw [← hW2]; exact Turns.more (((Turns.refl [] _).alloc _).alloc _)
  rw [hW2]
  clear hW2
  have HC' := HC
  clear HC
  have HC := fun (w' : World) (h : Turns [] w2 w') => And.intro (HC' w' ((More.turns hm2 _).trans h)) (hB1.turn h (by simp))
  have HB' := HB
  clear HB HX
  have HB := fun (w' : World) (h : More w2 w') => And.intro (HB' w' (More.trans hm2 h)) (And.intro ((hB1.keep h).turn (More.turns (More.refl _) []) (by simp)) (hB1.keep h).fr)
  have HC' := HC
  clear HC
  have HC := fun (w' : World) (h : Turns [] w2 w') => And.intro (HC' w' ((More.turns (More.refl _) _).trans h)) (hB2.turn h (by simp))
  have HB' := HB
  clear HB
  have HB := fun (w' : World) (h : More w2 w') => And.intro (HB' w' (More.trans (More.refl _) h)) (And.intro ((hB2.keep h).turn (More.turns (More.refl _) []) (by simp)) (hB2.keep h).fr)
  have HBd := HB _ (More.refl _)
  clear hm2
  go_wp2_with fail
  refine wp_region_held_drew (S := (fun w' => Turns [] w2 w')) (by kernel_rfl) ?_ (fun hHeld => ?_)
  · first | exact tC | exact mC2
  refine tk (v := ?_) 0 ⟨some 16, _, _, _, _, _⟩ rfl ?_ ?_
  rotate_left 2
  · (intro w hSw; (try dsimp only at hSw); go_simp; (try with_reducible rfl))
  (try simp only [Act.put, tkA, tkB, tkC])
  refine tk (v := ?_) 1 ⟨some 17, _, _, _, _, _⟩ rfl ?_ ?_
  rotate_left 2
  · (intro w hSw; (try dsimp only at hSw); go_simp; (try with_reducible rfl))
  (try simp only [Act.put, tkA, tkB, tkC])
  refine tk (v := ?_) 2 ⟨some 18, _, _, _, _, _⟩ rfl ?_ ?_
  rotate_left 2
  · (intro w hSw; (try dsimp only at hSw); go_simp; (try with_reducible rfl))
  (try simp only [Act.put, tkA, tkB, tkC])
  refine tk (v := ?_) 3 ⟨some 19, _, _, _, _, _⟩ rfl ?_ ?_
  rotate_left 2
  · (intro w hSw; (try dsimp only at hSw); go_simp; (try with_reducible rfl))
  (try simp only [Act.put, tkA, tkB, tkC])
  refine tk (v := ?_) 4 ⟨some 20, _, _, _, _, _⟩ rfl ?_ ?_
  rotate_left 2
  · (intro w hSw; (try dsimp only at hSw); go_simp; (try with_reducible rfl))
  (try simp only [Act.put, tkA, tkB, tkC])
  refine tk (v := ?_) 6 ⟨some 22, _, _, _, _, _⟩ rfl ?_ ?_
  rotate_left 2
  · (intro w hSw; (try dsimp only at hSw); go_simp; (try with_reducible rfl))
  (try simp only [Act.put, tkA, tkB, tkC])
  refine tk (v := ?_) 7 ⟨some 23, _, _, _, _, _⟩ rfl ?_ ?_
  rotate_left 2
  · (intro w hSw; (try dsimp only at hSw); go_simp; (try with_reducible rfl))
  (try simp only [Act.put, tkA, tkB, tkC])
  refine tk (v := ?_) 8 ⟨some 24, _, _, _, _, _⟩ rfl ?_ ?_
  rotate_left 2
  · (intro w hSw; (try dsimp only at hSw); go_simp; (try with_reducible rfl))
  (try simp only [Act.put, tkA, tkB, tkC])
  refine wpAnyH_ready (rs := [5]) (by kernel_rfl) (by simp) ?_
  refine AllReadyH.cons (o := ⟨some 21, _, _, _, _, _⟩) rfl (fun K hK => ?_) AllReadyH.nil
  go_simp
  (go_at_call 127; (with_reducible refine (impl_ratMax _ lo _ n2 _ (Ty.at_more Hlo.out mC) Wlo.out (Ty.at_more Hn2.out mC) Wn2.out Klo.out Kn2.out).mono ?_); rintro e w3 ⟨u3, v3, rfl, hb3, g3⟩; obtain ⟨r3a, r3n, r3c, r3d, r3m, r3e, e9⟩ := sh_Rat g3; simp only [List.cons.injEq, and_true, true_and] at e9; obtain ⟨e8, e9⟩ := e9; subst e8; subst e9; have G3 := Lib.hid g3; clear g3; have HX3 : More w2 w3 := mC; have HB3 := HB _ HX3; have hz3 := More.size HX3; (try simp at hz3); have hb3 := hb3)
  refine hK.out _ _ ?_ (fun hHeld => ?_)
  · first | exact tC | exact mC2
  clear hK K
  (try simp only [Act.put, tkA, tkB, tkC])
  refine wpAnyH_ready (rs := [9]) (by kernel_rfl) (by simp) ?_
  refine AllReadyH.cons (o := ⟨some 25, _, _, _, _, _⟩) rfl (fun K hK => ?_) AllReadyH.nil
  go_simp
  (go_at_call 128; (with_reducible refine (impl_ratMin _ hi _ n3 _ (Ty.at_more Hhi.out mC) Whi.out (Ty.at_more Hn3.out mC) Wn3.out Khi.out Kn3.out).mono ?_); rintro e w4 ⟨u4, v4, rfl, hb4, g4⟩; obtain ⟨r4a, r4n, r4c, r4d, r4m, r4e, e9⟩ := sh_Rat g4; simp only [List.cons.injEq, and_true, true_and] at e9; obtain ⟨e8, e9⟩ := e9; subst e8; subst e9; have G4 := Lib.hid g4; clear g4; have HX4 : More w2 w4 := mC; have HB4 := HB _ HX4; have hz4 := More.size HX4; (try simp at hz4); have hb4 := hb4)
  refine hK.out _ _ ?_ (fun hHeld => ?_)
  · first | exact tC | exact mC2
  clear hK K
  (try simp only [Act.put, tkA, tkB, tkC])
  refine wpAnyH_ready (rs := [10]) (by kernel_rfl) (by simp) ?_
  refine AllReadyH.cons (o := ⟨some 26, _, _, _, _, _⟩) rfl (fun K hK => ?_) AllReadyH.nil
  go_simp
  (go_at_call 117; (with_reducible refine (impl_ratCmpX (maxQ lo n2) (maxQ lo n2).1.1 (.slice r3a r3n r3c) (.slice r3d r3m r3e) (minQ hi n3) (minQ hi n3).1.1 (.slice r4a r4n r4c) (.slice r4d r4m r4e) _ KMmaxlon2.out KMminhin3.out (Ty.at_more G3.out mC) (Ty.at_more G4.out mC)).mono ?_); rintro e w5 ⟨rfl, hb5⟩; rw [C.out]; have HX5 : More w2 w5 := mC; have HB5 := HB _ HX5; have hz5 := More.size HX5; (try simp at hz5); have hb5 := hb5)
  refine hK.out _ _ ?_ (fun hHeld => ?_)
  · first | exact tC | exact mC2
  clear hK K
  (try simp only [Act.put, tkA, tkB, tkC])
  refine tk (v := ?_) 11 ⟨some 27, _, _, _, _, _⟩ rfl ?_ ?_
  rotate_left 2
  · (intro w hSw; (try dsimp only at hSw); go_simp; (try with_reducible rfl))
  (try simp only [Act.put, tkA, tkB, tkC])
  refine tk (v := ?_) 12 ⟨some 28, _, _, _, _, _⟩ rfl ?_ ?_
  rotate_left 2
  · (intro w hSw; (try dsimp only at hSw); go_simp; (try with_reducible rfl))
  (try simp only [Act.put, tkA, tkB, tkC])
  refine tk (v := ?_) 13 ⟨some 4, _, _, _, _, _⟩ rfl ?_ ?_
  rotate_left 2
  · (intro w hSw; (try dsimp only at hSw); go_simp; (try with_reducible rfl))
  (try simp only [Act.put, tkA, tkB, tkC])
  refine wpAnyH_done (by kernel_rfl) ?_ _
  go_wp2_with fail
  go_ret
  exact ⟨ret_bool (by simp), mC⟩
set_option maxRecDepth 8000 in
set_option maxHeartbeats 12800000 in
theorem impl_CellMeetsWall (cs0 : List Value) (m1 m2 m3 m4 m5 m6 : QR) (cs1 : List Value) (n1 n2 n3 : QR) (w : World) (hv0 : tCell.at w cs0 (m1, m2, m3, m4, m5, m6)) (hw0 : wCell (m1, m2, m3, m4, m5, m6) ≤ 1048576) (hv1 : tWall.at w cs1 (n1, n2, n3)) (hw1 : wWall (n1, n2, n3) ≤ 1048576) :
    Calls Try.prog 43 #[.agg cs0.toArray, .agg cs1.toArray] w fun e w' => e = .returned (.bool (cellMeetsB (m1, m2, m3, m4, m5, m6) (n1, n2, n3))) ∧ More w w' := by
  obtain ⟨k0, d0, rfl, f0, e0⟩ := at_prod hv0
  obtain ⟨k1, d1, rfl, f1, e1⟩ := at_prod e0
  obtain ⟨k2, d2, rfl, f2, e2⟩ := at_prod e1
  obtain ⟨k3, d3, rfl, f3, e3⟩ := at_prod e2
  obtain ⟨k4, d4, rfl, f4, e4⟩ := at_prod e3
  have f5 := e4; clear e4
  have f0 : tRat.at w _ m1 := f0
  obtain ⟨m1a, m1n, m1c, m1d, m1m, m1e, rfl⟩ := sh_Rat f0
  have Hm1 := Lib.hid f0; clear f0
  try clear f0
  have Wm1 : Hid (wRat m1 ≤ 1048576) := Lib.hid (by have h := hw0; unfold wCell at h; dsimp only at h; omega)
  have f1 : tRat.at w _ m2 := f1
  obtain ⟨m2a, m2n, m2c, m2d, m2m, m2e, rfl⟩ := sh_Rat f1
  have Hm2 := Lib.hid f1; clear f1
  try clear f1
  have Wm2 : Hid (wRat m2 ≤ 1048576) := Lib.hid (by have h := hw0; unfold wCell at h; dsimp only at h; omega)
  have f2 : tRat.at w _ m3 := f2
  obtain ⟨m3a, m3n, m3c, m3d, m3m, m3e, rfl⟩ := sh_Rat f2
  have Hm3 := Lib.hid f2; clear f2
  try clear f2
  have Wm3 : Hid (wRat m3 ≤ 1048576) := Lib.hid (by have h := hw0; unfold wCell at h; dsimp only at h; omega)
  have f3 : tRat.at w _ m4 := f3
  obtain ⟨m4a, m4n, m4c, m4d, m4m, m4e, rfl⟩ := sh_Rat f3
  have Hm4 := Lib.hid f3; clear f3
  try clear f3
  have Wm4 : Hid (wRat m4 ≤ 1048576) := Lib.hid (by have h := hw0; unfold wCell at h; dsimp only at h; omega)
  have f4 : tRat.at w _ m5 := f4
  obtain ⟨m5a, m5n, m5c, m5d, m5m, m5e, rfl⟩ := sh_Rat f4
  have Hm5 := Lib.hid f4; clear f4
  try clear f4
  have Wm5 : Hid (wRat m5 ≤ 1048576) := Lib.hid (by have h := hw0; unfold wCell at h; dsimp only at h; omega)
  have f5 : tRat.at w _ m6 := f5
  obtain ⟨m6a, m6n, m6c, m6d, m6m, m6e, rfl⟩ := sh_Rat f5
  have Hm6 := Lib.hid f5; clear f5
  try clear f5
  have Wm6 : Hid (wRat m6 ≤ 1048576) := Lib.hid (by have h := hw0; unfold wCell at h; dsimp only at h; omega)
  try clear e0 e1 e2 e3 e4 e5
  have HV0 : Hid (tCell.at w [.bool m1.1.1, .slice m1a m1n m1c, .slice m1d m1m m1e, .bool m2.1.1, .slice m2a m2n m2c, .slice m2d m2m m2e, .bool m3.1.1, .slice m3a m3n m3c, .slice m3d m3m m3e, .bool m4.1.1, .slice m4a m4n m4c, .slice m4d m4m m4e, .bool m5.1.1, .slice m5a m5n m5c, .slice m5d m5m m5e, .bool m6.1.1, .slice m6a m6n m6c, .slice m6d m6m m6e] (m1, m2, m3, m4, m5, m6)) := Lib.hid hv0; have HW0 := Lib.hid hw0; clear hv0 hw0
  obtain ⟨k0, d0, rfl, f0, e0⟩ := at_prod hv1
  obtain ⟨k1, d1, rfl, f1, e1⟩ := at_prod e0
  have f2 := e1; clear e1
  have f0 : tRat.at w _ n1 := f0
  obtain ⟨n1a, n1n, n1c, n1d, n1m, n1e, rfl⟩ := sh_Rat f0
  have Hn1 := Lib.hid f0; clear f0
  try clear f0
  have Wn1 : Hid (wRat n1 ≤ 1048576) := Lib.hid (by have h := hw1; unfold wWall at h; dsimp only at h; omega)
  have f1 : tRat.at w _ n2 := f1
  obtain ⟨n2a, n2n, n2c, n2d, n2m, n2e, rfl⟩ := sh_Rat f1
  have Hn2 := Lib.hid f1; clear f1
  try clear f1
  have Wn2 : Hid (wRat n2 ≤ 1048576) := Lib.hid (by have h := hw1; unfold wWall at h; dsimp only at h; omega)
  have f2 : tRat.at w _ n3 := f2
  obtain ⟨n3a, n3n, n3c, n3d, n3m, n3e, rfl⟩ := sh_Rat f2
  have Hn3 := Lib.hid f2; clear f2
  try clear f2
  have Wn3 : Hid (wRat n3 ≤ 1048576) := Lib.hid (by have h := hw1; unfold wWall at h; dsimp only at h; omega)
  try clear e0 e1 e2
  have HV1 : Hid (tWall.at w [.bool n1.1.1, .slice n1a n1n n1c, .slice n1d n1m n1e, .bool n2.1.1, .slice n2a n2n n2c, .slice n2d n2m n2e, .bool n3.1.1, .slice n3a n3n n3c, .slice n3d n3m n3e] (n1, n2, n3)) := Lib.hid hv1; have HW1 := Lib.hid hw1; clear hv1 hw1
  show Calls Try.prog 43 #[.agg #[.bool m1.1.1, .slice m1a m1n m1c, .slice m1d m1m m1e, .bool m2.1.1, .slice m2a m2n m2c, .slice m2d m2m m2e, .bool m3.1.1, .slice m3a m3n m3c, .slice m3d m3m m3e, .bool m4.1.1, .slice m4a m4n m4c, .slice m4d m4m m4e, .bool m5.1.1, .slice m5a m5n m5c, .slice m5d m5m m5e, .bool m6.1.1, .slice m6a m6n m6c, .slice m6d m6m m6e], .agg #[.bool n1.1.1, .slice n1a n1n n1c, .slice n1d n1m n1e, .bool n2.1.1, .slice n2a n2n n2c, .slice n2d n2m n2e, .bool n3.1.1, .slice n3a n3n n3c, .slice n3d n3m n3e]] w _
  rcases Bool.eq_false_or_eq_true (cellB (m1, m2, m3, m4, m5, m6)) with kc | kc
  rotate_left
  · have KC := Lib.hid kc; clear kc
    have HX := More.refl ((w.alloc (.cells #[.bool m1.1.1, .slice m1a m1n m1c, .slice m1d m1m m1e, .bool m2.1.1, .slice m2a m2n m2c, .slice m2d m2m m2e, .bool m3.1.1, .slice m3a m3n m3c, .slice m3d m3m m3e, .bool m4.1.1, .slice m4a m4n m4c, .slice m4d m4m m4e, .bool m5.1.1, .slice m5a m5n m5c, .slice m5d m5m m5e, .bool m6.1.1, .slice m6a m6n m6c, .slice m6d m6m m6e] 37)).alloc (.cells #[.bool n1.1.1, .slice n1a n1n n1c, .slice n1d n1m n1e, .bool n2.1.1, .slice n2a n2n n2c, .slice n2d n2m n2e, .bool n3.1.1, .slice n3a n3n n3c, .slice n3d n3m n3e] 87))
    have HB := fun (w' : World) (h : More ((w.alloc (.cells #[.bool m1.1.1, .slice m1a m1n m1c, .slice m1d m1m m1e, .bool m2.1.1, .slice m2a m2n m2c, .slice m2d m2m m2e, .bool m3.1.1, .slice m3a m3n m3c, .slice m3d m3m m3e, .bool m4.1.1, .slice m4a m4n m4c, .slice m4d m4m m4e, .bool m5.1.1, .slice m5a m5n m5c, .slice m5d m5m m5e, .bool m6.1.1, .slice m6a m6n m6c, .slice m6d m6m m6e] 37)).alloc (.cells #[.bool n1.1.1, .slice n1a n1n n1c, .slice n1d n1m n1e, .bool n2.1.1, .slice n2a n2n n2c, .slice n2d n2m n2e, .bool n3.1.1, .slice n3a n3n n3c, .slice n3d n3m n3e] 87)) w') => And.intro (bx18 (w.heap.size) (by simp) (More.un h)) (bx9 (w.heap.size + 1) (by simp) h)
    have HC := fun (w' : World) (h : Turns [] _ w') => HB w' (Turns.more h)
    have HRK : ∀ w', More ((w.alloc (.cells #[.bool m1.1.1, .slice m1a m1n m1c, .slice m1d m1m m1e, .bool m2.1.1, .slice m2a m2n m2c, .slice m2d m2m m2e, .bool m3.1.1, .slice m3a m3n m3c, .slice m3d m3m m3e, .bool m4.1.1, .slice m4a m4n m4c, .slice m4d m4m m4e, .bool m5.1.1, .slice m5a m5n m5c, .slice m5d m5m m5e, .bool m6.1.1, .slice m6a m6n m6c, .slice m6d m6m m6e] 37)).alloc (.cells #[.bool n1.1.1, .slice n1a n1n n1c, .slice n1d n1m n1e, .bool n2.1.1, .slice n2a n2n n2c, .slice n2d n2m n2e, .bool n3.1.1, .slice n3a n3n n3c, .slice n3d n3m n3e] 87)) w' → w'.rangeAt (w.heap.size) 0 [.bool m1.1.1, .slice m1a m1n m1c, .slice m1d m1m m1e, .bool m2.1.1, .slice m2a m2n m2c, .slice m2d m2m m2e, .bool m3.1.1, .slice m3a m3n m3c, .slice m3d m3m m3e, .bool m4.1.1, .slice m4a m4n m4c, .slice m4d m4m m4e, .bool m5.1.1, .slice m5a m5n m5c, .slice m5d m5m m5e, .bool m6.1.1, .slice m6a m6n m6c, .slice m6d m6m m6e] := fun w' h => box_range (by simp) (More.un h)
    go_enter Try.func43, Try.ntmps43
    go_wp2_with (first | (refine wpList_load_mid rfl _ _ rfl (w.heap.size) 0 rfl _ _ (HRK _ mC) Try.underlying37 rfl (by kernel_rfl) ?_) | (refine wpList_load_midG rfl _ _ rfl (w.heap.size) 0 rfl _ _ (HRK _ mC) Try.underlying37 rfl (by kernel_rfl) ?_) | (go_at_call 94; (with_reducible refine (impl_IsValidCell _ m1 m2 m3 m4 m5 m6 _ (Ty.at_more HV0.out mC) HW0.out).mono ?_); rintro e w1 ⟨rfl, hb1⟩; have HX1 := More.trans HX (show More _ w1 from mC); have HB1 := HB _ HX1; have hz1 := More.size HX1; (try simp at hz1); have hb1 := hb1; rw [KC.out]))
    go_ret
    exact ⟨ret_bool (by unfold cellMeetsB; rw [KC.out]; rfl), mC⟩
  have KC := Lib.hid kc; clear kc
  rcases Bool.eq_false_or_eq_true (wallB (n1, n2, n3)) with ka | ka
  rotate_left
  · have KW := Lib.hid ka; clear ka
    have HX := More.refl ((w.alloc (.cells #[.bool m1.1.1, .slice m1a m1n m1c, .slice m1d m1m m1e, .bool m2.1.1, .slice m2a m2n m2c, .slice m2d m2m m2e, .bool m3.1.1, .slice m3a m3n m3c, .slice m3d m3m m3e, .bool m4.1.1, .slice m4a m4n m4c, .slice m4d m4m m4e, .bool m5.1.1, .slice m5a m5n m5c, .slice m5d m5m m5e, .bool m6.1.1, .slice m6a m6n m6c, .slice m6d m6m m6e] 37)).alloc (.cells #[.bool n1.1.1, .slice n1a n1n n1c, .slice n1d n1m n1e, .bool n2.1.1, .slice n2a n2n n2c, .slice n2d n2m n2e, .bool n3.1.1, .slice n3a n3n n3c, .slice n3d n3m n3e] 87))
    have HB := fun (w' : World) (h : More ((w.alloc (.cells #[.bool m1.1.1, .slice m1a m1n m1c, .slice m1d m1m m1e, .bool m2.1.1, .slice m2a m2n m2c, .slice m2d m2m m2e, .bool m3.1.1, .slice m3a m3n m3c, .slice m3d m3m m3e, .bool m4.1.1, .slice m4a m4n m4c, .slice m4d m4m m4e, .bool m5.1.1, .slice m5a m5n m5c, .slice m5d m5m m5e, .bool m6.1.1, .slice m6a m6n m6c, .slice m6d m6m m6e] 37)).alloc (.cells #[.bool n1.1.1, .slice n1a n1n n1c, .slice n1d n1m n1e, .bool n2.1.1, .slice n2a n2n n2c, .slice n2d n2m n2e, .bool n3.1.1, .slice n3a n3n n3c, .slice n3d n3m n3e] 87)) w') => And.intro (bx18 (w.heap.size) (by simp) (More.un h)) (bx9 (w.heap.size + 1) (by simp) h)
    have HC := fun (w' : World) (h : Turns [] _ w') => HB w' (Turns.more h)
    have HRK : ∀ w', More ((w.alloc (.cells #[.bool m1.1.1, .slice m1a m1n m1c, .slice m1d m1m m1e, .bool m2.1.1, .slice m2a m2n m2c, .slice m2d m2m m2e, .bool m3.1.1, .slice m3a m3n m3c, .slice m3d m3m m3e, .bool m4.1.1, .slice m4a m4n m4c, .slice m4d m4m m4e, .bool m5.1.1, .slice m5a m5n m5c, .slice m5d m5m m5e, .bool m6.1.1, .slice m6a m6n m6c, .slice m6d m6m m6e] 37)).alloc (.cells #[.bool n1.1.1, .slice n1a n1n n1c, .slice n1d n1m n1e, .bool n2.1.1, .slice n2a n2n n2c, .slice n2d n2m n2e, .bool n3.1.1, .slice n3a n3n n3c, .slice n3d n3m n3e] 87)) w' → w'.rangeAt (w.heap.size) 0 [.bool m1.1.1, .slice m1a m1n m1c, .slice m1d m1m m1e, .bool m2.1.1, .slice m2a m2n m2c, .slice m2d m2m m2e, .bool m3.1.1, .slice m3a m3n m3c, .slice m3d m3m m3e, .bool m4.1.1, .slice m4a m4n m4c, .slice m4d m4m m4e, .bool m5.1.1, .slice m5a m5n m5c, .slice m5d m5m m5e, .bool m6.1.1, .slice m6a m6n m6c, .slice m6d m6m m6e] := fun w' h => box_range (by simp) (More.un h)
    go_enter Try.func43, Try.ntmps43
    go_wp2_with (first | (refine wpList_load_mid rfl _ _ rfl (w.heap.size) 0 rfl _ _ (HRK _ mC) Try.underlying37 rfl (by kernel_rfl) ?_) | (refine wpList_load_midG rfl _ _ rfl (w.heap.size) 0 rfl _ _ (HRK _ mC) Try.underlying37 rfl (by kernel_rfl) ?_) | (go_at_call 94; (with_reducible refine (impl_IsValidCell _ m1 m2 m3 m4 m5 m6 _ (Ty.at_more HV0.out mC) HW0.out).mono ?_); rintro e w1 ⟨rfl, hb1⟩; have HX1 := More.trans HX (show More _ w1 from mC); have HB1 := HB _ HX1; have hz1 := More.size HX1; (try simp at hz1); have hb1 := hb1; rw [KC.out]) | (go_at_call 95; (with_reducible refine (impl_IsValidWall _ n1 n2 n3 _ (Ty.at_more HV1.out mC) HW1.out).mono ?_); rintro e w2 ⟨rfl, hb2⟩; have HX2 := More.trans HX (show More _ w2 from mC); have HB2 := HB _ HX2; have hz2 := More.size HX2; (try simp at hz2); have hb2 := hb2; rw [KW.out]))
    go_ret
    exact ⟨ret_bool (by unfold cellMeetsB; rw [KC.out, KW.out]; rfl), mC⟩
  have KW := Lib.hid ka; clear ka
  obtain ⟨j1, j2, j3, j4, j5, j6⟩ := cellB_parts KC.out
  have Km1 := Lib.hid j1; clear j1
  have Km2 := Lib.hid j2; clear j2
  have Km3 := Lib.hid j3; clear j3
  have Km4 := Lib.hid j4; clear j4
  have Km5 := Lib.hid j5; clear j5
  have Km6 := Lib.hid j6; clear j6
  obtain ⟨j1, j2, j3⟩ := wallB_split KW.out
  have Kn1 := Lib.hid j1; clear j1
  have Kn2 := Lib.hid j2; clear j2
  have Kn3 := Lib.hid j3; clear j3
  have HX := More.refl ((w.alloc (.cells #[.bool m1.1.1, .slice m1a m1n m1c, .slice m1d m1m m1e, .bool m2.1.1, .slice m2a m2n m2c, .slice m2d m2m m2e, .bool m3.1.1, .slice m3a m3n m3c, .slice m3d m3m m3e, .bool m4.1.1, .slice m4a m4n m4c, .slice m4d m4m m4e, .bool m5.1.1, .slice m5a m5n m5c, .slice m5d m5m m5e, .bool m6.1.1, .slice m6a m6n m6c, .slice m6d m6m m6e] 37)).alloc (.cells #[.bool n1.1.1, .slice n1a n1n n1c, .slice n1d n1m n1e, .bool n2.1.1, .slice n2a n2n n2c, .slice n2d n2m n2e, .bool n3.1.1, .slice n3a n3n n3c, .slice n3d n3m n3e] 87))
  have HB := fun (w' : World) (h : More ((w.alloc (.cells #[.bool m1.1.1, .slice m1a m1n m1c, .slice m1d m1m m1e, .bool m2.1.1, .slice m2a m2n m2c, .slice m2d m2m m2e, .bool m3.1.1, .slice m3a m3n m3c, .slice m3d m3m m3e, .bool m4.1.1, .slice m4a m4n m4c, .slice m4d m4m m4e, .bool m5.1.1, .slice m5a m5n m5c, .slice m5d m5m m5e, .bool m6.1.1, .slice m6a m6n m6c, .slice m6d m6m m6e] 37)).alloc (.cells #[.bool n1.1.1, .slice n1a n1n n1c, .slice n1d n1m n1e, .bool n2.1.1, .slice n2a n2n n2c, .slice n2d n2m n2e, .bool n3.1.1, .slice n3a n3n n3c, .slice n3d n3m n3e] 87)) w') => And.intro (bx18 (w.heap.size) (by simp) (More.un h)) (bx9 (w.heap.size + 1) (by simp) h)
  have HC := fun (w' : World) (h : Turns [] _ w') => HB w' (Turns.more h)
  have HRK : ∀ w', More ((w.alloc (.cells #[.bool m1.1.1, .slice m1a m1n m1c, .slice m1d m1m m1e, .bool m2.1.1, .slice m2a m2n m2c, .slice m2d m2m m2e, .bool m3.1.1, .slice m3a m3n m3c, .slice m3d m3m m3e, .bool m4.1.1, .slice m4a m4n m4c, .slice m4d m4m m4e, .bool m5.1.1, .slice m5a m5n m5c, .slice m5d m5m m5e, .bool m6.1.1, .slice m6a m6n m6c, .slice m6d m6m m6e] 37)).alloc (.cells #[.bool n1.1.1, .slice n1a n1n n1c, .slice n1d n1m n1e, .bool n2.1.1, .slice n2a n2n n2c, .slice n2d n2m n2e, .bool n3.1.1, .slice n3a n3n n3c, .slice n3d n3m n3e] 87)) w' → w'.rangeAt (w.heap.size) 0 [.bool m1.1.1, .slice m1a m1n m1c, .slice m1d m1m m1e, .bool m2.1.1, .slice m2a m2n m2c, .slice m2d m2m m2e, .bool m3.1.1, .slice m3a m3n m3c, .slice m3d m3m m3e, .bool m4.1.1, .slice m4a m4n m4c, .slice m4d m4m m4e, .bool m5.1.1, .slice m5a m5n m5c, .slice m5d m5m m5e, .bool m6.1.1, .slice m6a m6n m6c, .slice m6d m6m m6e] := fun w' h => box_range (by simp) (More.un h)
  go_enter Try.func43, Try.ntmps43
  go_wp2_with (first | (refine wpList_load_mid rfl _ _ rfl (w.heap.size) 0 rfl _ _ (HRK _ mC) Try.underlying37 rfl (by kernel_rfl) ?_) | (refine wpList_load_midG rfl _ _ rfl (w.heap.size) 0 rfl _ _ (HRK _ mC) Try.underlying37 rfl (by kernel_rfl) ?_) | (go_at_call 94; (with_reducible refine (impl_IsValidCell _ m1 m2 m3 m4 m5 m6 _ (Ty.at_more HV0.out mC) HW0.out).mono ?_); rintro e w1 ⟨rfl, hb1⟩; have HX1 := More.trans HX (show More _ w1 from mC); have HB1 := HB _ HX1; have hz1 := More.size HX1; (try simp at hz1); have hb1 := hb1; rw [KC.out]) | (go_at_call 95; (with_reducible refine (impl_IsValidWall _ n1 n2 n3 _ (Ty.at_more HV1.out mC) HW1.out).mono ?_); rintro e w2 ⟨rfl, hb2⟩; have HX2 := More.trans HX (show More _ w2 from mC); have HB2 := HB _ HX2; have hz2 := More.size HX2; (try simp at hz2); have hb2 := hb2; rw [KW.out]) | (go_at_call 96; (with_reducible refine (impl_cellMeetsWall _ m1 m2 m3 m4 m5 m6 _ n1 n2 n3 _ (Ty.at_more HV0.out mC) HW0.out (Ty.at_more HV1.out mC) HW1.out Km1.out Km2.out Km3.out Km4.out Km5.out Km6.out Kn1.out Kn2.out Kn3.out).mono ?_); rintro e w3 ⟨rfl, hb3⟩; have HX3 := More.trans HX (show More _ w3 from mC); have HB3 := HB _ HX3; have hz3 := More.size HX3; (try simp at hz3); have hb3 := hb3))
  go_ret
  exact ⟨ret_bool (by unfold cellMeetsB; rw [KC.out, KW.out]; rfl), mC⟩
set_option maxRecDepth 8000 in
set_option maxHeartbeats 12800000 in
theorem spec_CellMeetsWall (cs0 : List Value) (m1 m2 m3 m4 m5 m6 : QR) (cs1 : List Value) (n1 n2 n3 : QR) (w : World) (hv0 : tCell.at w cs0 (m1, m2, m3, m4, m5, m6)) (hw0 : wCell (m1, m2, m3, m4, m5, m6) ≤ 1048576) (hv1 : tWall.at w cs1 (n1, n2, n3)) (hw1 : wWall (n1, n2, n3) ≤ 1048576) :
    Calls Try.prog 41 #[.agg cs0.toArray, .agg cs1.toArray] w fun e w' => e = .returned (.bool (cellMeetsB (m1, m2, m3, m4, m5, m6) (n1, n2, n3))) ∧ More w w' := by
  obtain ⟨k0, d0, rfl, f0, e0⟩ := at_prod hv0
  obtain ⟨k1, d1, rfl, f1, e1⟩ := at_prod e0
  obtain ⟨k2, d2, rfl, f2, e2⟩ := at_prod e1
  obtain ⟨k3, d3, rfl, f3, e3⟩ := at_prod e2
  obtain ⟨k4, d4, rfl, f4, e4⟩ := at_prod e3
  have f5 := e4; clear e4
  have f0 : tRat.at w _ m1 := f0
  obtain ⟨m1a, m1n, m1c, m1d, m1m, m1e, rfl⟩ := sh_Rat f0
  have Hm1 := Lib.hid f0; clear f0
  try clear f0
  have Wm1 : Hid (wRat m1 ≤ 1048576) := Lib.hid (by have h := hw0; unfold wCell at h; dsimp only at h; omega)
  have f1 : tRat.at w _ m2 := f1
  obtain ⟨m2a, m2n, m2c, m2d, m2m, m2e, rfl⟩ := sh_Rat f1
  have Hm2 := Lib.hid f1; clear f1
  try clear f1
  have Wm2 : Hid (wRat m2 ≤ 1048576) := Lib.hid (by have h := hw0; unfold wCell at h; dsimp only at h; omega)
  have f2 : tRat.at w _ m3 := f2
  obtain ⟨m3a, m3n, m3c, m3d, m3m, m3e, rfl⟩ := sh_Rat f2
  have Hm3 := Lib.hid f2; clear f2
  try clear f2
  have Wm3 : Hid (wRat m3 ≤ 1048576) := Lib.hid (by have h := hw0; unfold wCell at h; dsimp only at h; omega)
  have f3 : tRat.at w _ m4 := f3
  obtain ⟨m4a, m4n, m4c, m4d, m4m, m4e, rfl⟩ := sh_Rat f3
  have Hm4 := Lib.hid f3; clear f3
  try clear f3
  have Wm4 : Hid (wRat m4 ≤ 1048576) := Lib.hid (by have h := hw0; unfold wCell at h; dsimp only at h; omega)
  have f4 : tRat.at w _ m5 := f4
  obtain ⟨m5a, m5n, m5c, m5d, m5m, m5e, rfl⟩ := sh_Rat f4
  have Hm5 := Lib.hid f4; clear f4
  try clear f4
  have Wm5 : Hid (wRat m5 ≤ 1048576) := Lib.hid (by have h := hw0; unfold wCell at h; dsimp only at h; omega)
  have f5 : tRat.at w _ m6 := f5
  obtain ⟨m6a, m6n, m6c, m6d, m6m, m6e, rfl⟩ := sh_Rat f5
  have Hm6 := Lib.hid f5; clear f5
  try clear f5
  have Wm6 : Hid (wRat m6 ≤ 1048576) := Lib.hid (by have h := hw0; unfold wCell at h; dsimp only at h; omega)
  try clear e0 e1 e2 e3 e4 e5
  have HV0 : Hid (tCell.at w [.bool m1.1.1, .slice m1a m1n m1c, .slice m1d m1m m1e, .bool m2.1.1, .slice m2a m2n m2c, .slice m2d m2m m2e, .bool m3.1.1, .slice m3a m3n m3c, .slice m3d m3m m3e, .bool m4.1.1, .slice m4a m4n m4c, .slice m4d m4m m4e, .bool m5.1.1, .slice m5a m5n m5c, .slice m5d m5m m5e, .bool m6.1.1, .slice m6a m6n m6c, .slice m6d m6m m6e] (m1, m2, m3, m4, m5, m6)) := Lib.hid hv0; have HW0 := Lib.hid hw0; clear hv0 hw0
  obtain ⟨k0, d0, rfl, f0, e0⟩ := at_prod hv1
  obtain ⟨k1, d1, rfl, f1, e1⟩ := at_prod e0
  have f2 := e1; clear e1
  have f0 : tRat.at w _ n1 := f0
  obtain ⟨n1a, n1n, n1c, n1d, n1m, n1e, rfl⟩ := sh_Rat f0
  have Hn1 := Lib.hid f0; clear f0
  try clear f0
  have Wn1 : Hid (wRat n1 ≤ 1048576) := Lib.hid (by have h := hw1; unfold wWall at h; dsimp only at h; omega)
  have f1 : tRat.at w _ n2 := f1
  obtain ⟨n2a, n2n, n2c, n2d, n2m, n2e, rfl⟩ := sh_Rat f1
  have Hn2 := Lib.hid f1; clear f1
  try clear f1
  have Wn2 : Hid (wRat n2 ≤ 1048576) := Lib.hid (by have h := hw1; unfold wWall at h; dsimp only at h; omega)
  have f2 : tRat.at w _ n3 := f2
  obtain ⟨n3a, n3n, n3c, n3d, n3m, n3e, rfl⟩ := sh_Rat f2
  have Hn3 := Lib.hid f2; clear f2
  try clear f2
  have Wn3 : Hid (wRat n3 ≤ 1048576) := Lib.hid (by have h := hw1; unfold wWall at h; dsimp only at h; omega)
  try clear e0 e1 e2
  have HV1 : Hid (tWall.at w [.bool n1.1.1, .slice n1a n1n n1c, .slice n1d n1m n1e, .bool n2.1.1, .slice n2a n2n n2c, .slice n2d n2m n2e, .bool n3.1.1, .slice n3a n3n n3c, .slice n3d n3m n3e] (n1, n2, n3)) := Lib.hid hv1; have HW1 := Lib.hid hw1; clear hv1 hw1
  show Calls Try.prog 41 #[.agg #[.bool m1.1.1, .slice m1a m1n m1c, .slice m1d m1m m1e, .bool m2.1.1, .slice m2a m2n m2c, .slice m2d m2m m2e, .bool m3.1.1, .slice m3a m3n m3c, .slice m3d m3m m3e, .bool m4.1.1, .slice m4a m4n m4c, .slice m4d m4m m4e, .bool m5.1.1, .slice m5a m5n m5c, .slice m5d m5m m5e, .bool m6.1.1, .slice m6a m6n m6c, .slice m6d m6m m6e], .agg #[.bool n1.1.1, .slice n1a n1n n1c, .slice n1d n1m n1e, .bool n2.1.1, .slice n2a n2n n2c, .slice n2d n2m n2e, .bool n3.1.1, .slice n3a n3n n3c, .slice n3d n3m n3e]] w _
  obtain ⟨⟨lo, hi, ok⟩, hcs⟩ : ∃ r, csF (m1, m2, m3, m4, m5, m6) n1 = r := ⟨_, rfl⟩
  have HCS := Lib.hid hcs
  have hw9 := csF_w hcs HW0.out
  have Wlo := Lib.hid hw9.1; have Whi := Lib.hid hw9.2; clear hw9
  have HCM : Hid (cmwB (m1, m2, m3, m4, m5, m6) (n1, n2, n3) = (ok && decide (rCmp (maxQ lo n2) (minQ hi n3) < 0))) := Lib.hid (by unfold cmwB; dsimp only; rw [hcs])
  clear hcs
  cases ok
  · skip
    have HX := More.refl ((w.alloc (.cells #[.bool m1.1.1, .slice m1a m1n m1c, .slice m1d m1m m1e, .bool m2.1.1, .slice m2a m2n m2c, .slice m2d m2m m2e, .bool m3.1.1, .slice m3a m3n m3c, .slice m3d m3m m3e, .bool m4.1.1, .slice m4a m4n m4c, .slice m4d m4m m4e, .bool m5.1.1, .slice m5a m5n m5c, .slice m5d m5m m5e, .bool m6.1.1, .slice m6a m6n m6c, .slice m6d m6m m6e] 37)).alloc (.cells #[.bool n1.1.1, .slice n1a n1n n1c, .slice n1d n1m n1e, .bool n2.1.1, .slice n2a n2n n2c, .slice n2d n2m n2e, .bool n3.1.1, .slice n3a n3n n3c, .slice n3d n3m n3e] 87))
    have HB := fun (w' : World) (h : More ((w.alloc (.cells #[.bool m1.1.1, .slice m1a m1n m1c, .slice m1d m1m m1e, .bool m2.1.1, .slice m2a m2n m2c, .slice m2d m2m m2e, .bool m3.1.1, .slice m3a m3n m3c, .slice m3d m3m m3e, .bool m4.1.1, .slice m4a m4n m4c, .slice m4d m4m m4e, .bool m5.1.1, .slice m5a m5n m5c, .slice m5d m5m m5e, .bool m6.1.1, .slice m6a m6n m6c, .slice m6d m6m m6e] 37)).alloc (.cells #[.bool n1.1.1, .slice n1a n1n n1c, .slice n1d n1m n1e, .bool n2.1.1, .slice n2a n2n n2c, .slice n2d n2m n2e, .bool n3.1.1, .slice n3a n3n n3c, .slice n3d n3m n3e] 87)) w') => And.intro (bx18 (w.heap.size) (by simp) (More.un h)) (bx9 (w.heap.size + 1) (by simp) h)
    have HC := fun (w' : World) (h : Turns [] _ w') => HB w' (Turns.more h)
    have HRK : ∀ w', More ((w.alloc (.cells #[.bool m1.1.1, .slice m1a m1n m1c, .slice m1d m1m m1e, .bool m2.1.1, .slice m2a m2n m2c, .slice m2d m2m m2e, .bool m3.1.1, .slice m3a m3n m3c, .slice m3d m3m m3e, .bool m4.1.1, .slice m4a m4n m4c, .slice m4d m4m m4e, .bool m5.1.1, .slice m5a m5n m5c, .slice m5d m5m m5e, .bool m6.1.1, .slice m6a m6n m6c, .slice m6d m6m m6e] 37)).alloc (.cells #[.bool n1.1.1, .slice n1a n1n n1c, .slice n1d n1m n1e, .bool n2.1.1, .slice n2a n2n n2c, .slice n2d n2m n2e, .bool n3.1.1, .slice n3a n3n n3c, .slice n3d n3m n3e] 87)) w' → w'.rangeAt (w.heap.size) 0 [.bool m1.1.1, .slice m1a m1n m1c, .slice m1d m1m m1e, .bool m2.1.1, .slice m2a m2n m2c, .slice m2d m2m m2e, .bool m3.1.1, .slice m3a m3n m3c, .slice m3d m3m m3e, .bool m4.1.1, .slice m4a m4n m4c, .slice m4d m4m m4e, .bool m5.1.1, .slice m5a m5n m5c, .slice m5d m5m m5e, .bool m6.1.1, .slice m6a m6n m6c, .slice m6d m6m m6e] := fun w' h => box_range (by simp) (More.un h)
    go_enter Try.func41, Try.ntmps41
    go_upto_region 2 with (first | (refine wpList_load_mid rfl _ _ rfl (w.heap.size) 0 rfl _ _ (HRK _ mC) Try.underlying37 rfl (by kernel_rfl) ?_) | (refine wpList_load_midG rfl _ _ rfl (w.heap.size) 0 rfl _ _ (HRK _ mC) Try.underlying37 rfl (by kernel_rfl) ?_) | (go_at_call 10; (with_reducible refine (spec_CellSide _ m1 m2 m3 m4 m5 m6 _ n1 lo hi _ _ (Ty.at_more HV0.out mC) HW0.out (Ty.at_more Hn1.out mC) Wn1.out HCS.out).mono ?_); rintro e w1 ⟨ua, va, ub, vb, rfl, hb1, f1⟩; obtain ⟨j1, j2, ej, jf, je⟩ := at_prod (Ty.fresh_at f1); obtain ⟨loa, lon, loc, lod, lom, loe, rfl⟩ := sh_Rat jf; obtain ⟨hia, hin, hic, hid, him, hie, rfl⟩ := sh_Rat je; simp only [List.cons_append, List.nil_append, List.cons.injEq, and_true, true_and] at ej; obtain ⟨q1, q2, q3, q4⟩ := ej; subst q1; subst q2; subst q3; subst q4; have Hlo := Lib.hid jf; have Hhi := Lib.hid je; clear f1 jf je; have HX1 := More.trans HX (show More _ w1 from mC); have HB1 := HB _ HX1; have hz1 := More.size HX1; (try simp at hz1); have hb1 := hb1))
    obtain ⟨w2, hW2⟩ : ∃ q9, ((w1.alloc (.cells #[.bool lo.1.1, .slice loa lon loc, .slice lod lom loe] 33)).alloc (.cells #[.bool hi.1.1, .slice hia hin hic, .slice hid him hie] 33)) = q9 := ⟨_, rfl⟩
    have hm2 : More ((w.alloc (.cells #[.bool m1.1.1, .slice m1a m1n m1c, .slice m1d m1m m1e, .bool m2.1.1, .slice m2a m2n m2c, .slice m2d m2m m2e, .bool m3.1.1, .slice m3a m3n m3c, .slice m3d m3m m3e, .bool m4.1.1, .slice m4a m4n m4c, .slice m4d m4m m4e, .bool m5.1.1, .slice m5a m5n m5c, .slice m5d m5m m5e, .bool m6.1.1, .slice m6a m6n m6c, .slice m6d m6m m6e] 37)).alloc (.cells #[.bool n1.1.1, .slice n1a n1n n1c, .slice n1d n1m n1e, .bool n2.1.1, .slice n2a n2n n2c, .slice n2d n2m n2e, .bool n3.1.1, .slice n3a n3n n3c, .slice n3d n3m n3e] 87)) w2 := by rw [← hW2]; exact mC
    have hB1 : Box3 w2 (w1.heap.size) (.bool lo.1.1) (.slice loa lon loc) (.slice lod lom loe) := by rw [← hW2]; exact Box3.new (X := w1) rfl (More.un (More.refl _))
    have hB2 : Box3 w2 (w1.heap.size + 1) (.bool hi.1.1) (.slice hia hin hic) (.slice hid him hie) := by rw [← hW2]; exact Box3.new (X := w1.alloc (.cells #[.bool lo.1.1, .slice loa lon loc, .slice lod lom loe] 33)) (by simp) (More.refl _)
    have hn1 := More.size HX1
    have hn2 : ((w.alloc (.cells #[.bool m1.1.1, .slice m1a m1n m1c, .slice m1d m1m m1e, .bool m2.1.1, .slice m2a m2n m2c, .slice m2d m2m m2e, .bool m3.1.1, .slice m3a m3n m3c, .slice m3d m3m m3e, .bool m4.1.1, .slice m4a m4n m4c, .slice m4d m4m m4e, .bool m5.1.1, .slice m5a m5n m5c, .slice m5d m5m m5e, .bool m6.1.1, .slice m6a m6n m6c, .slice m6d m6m m6e] 37)).alloc (.cells #[.bool n1.1.1, .slice n1a n1n n1c, .slice n1d n1m n1e, .bool n2.1.1, .slice n2a n2n n2c, .slice n2d n2m n2e, .bool n3.1.1, .slice n3a n3n n3c, .slice n3d n3m n3e] 87)).heap.size ≤ w1.heap.size + 1 := by have h9 := More.size HX1; omega
    have h12 : More w1 w2 := by rw [← hW2]; exact Turns.more (((Turns.refl [] _).alloc _).alloc _)
    rw [hW2]
    clear hW2
    have HC' := HC
    clear HC
    have HC := fun (w' : World) (h : Turns [] w2 w') => And.intro (HC' w' ((More.turns hm2 _).trans h)) (hB1.turn h (by simp))
    have HB' := HB
    clear HB HX
    have HB := fun (w' : World) (h : More w2 w') => And.intro (HB' w' (More.trans hm2 h)) (And.intro ((hB1.keep h).turn (More.turns (More.refl _) []) (by simp)) (hB1.keep h).fr)
    have HC' := HC
    clear HC
    have HC := fun (w' : World) (h : Turns [] w2 w') => And.intro (HC' w' ((More.turns (More.refl _) _).trans h)) (hB2.turn h (by simp))
    have HB' := HB
    clear HB
    have HB := fun (w' : World) (h : More w2 w') => And.intro (HB' w' (More.trans (More.refl _) h)) (And.intro ((hB2.keep h).turn (More.turns (More.refl _) []) (by simp)) (hB2.keep h).fr)
    have HBd := HB _ (More.refl _)
    clear hm2
    go_wp2_with (first | (refine wpList_load_mid rfl _ _ rfl (w.heap.size) 0 rfl _ _ (HRK _ mC) Try.underlying37 rfl (by kernel_rfl) ?_) | (refine wpList_load_midG rfl _ _ rfl (w.heap.size) 0 rfl _ _ (HRK _ mC) Try.underlying37 rfl (by kernel_rfl) ?_) | (go_at_call 89; (with_reducible refine (spec_IsValidCell _ m1 m2 m3 m4 m5 m6 _ (Ty.at_more HV0.out mC) HW0.out).mono ?_); rintro e w7 ⟨rfl, hb7⟩; have HX7 : More w2 w7 := mC; have HB7 := HB _ HX7; have hz7 := More.size HX7; (try simp at hz7); have hb7 := hb7; rw [KC.out]))
    go_ret
    exact ⟨ret_bool (by unfold cellMeetsB; rw [HCM.out]; simp), mC⟩
  rcases Bool.eq_false_or_eq_true (cellB (m1, m2, m3, m4, m5, m6)) with kc | kc
  rotate_left
  · have KC := Lib.hid kc; clear kc
    have HX := More.refl ((w.alloc (.cells #[.bool m1.1.1, .slice m1a m1n m1c, .slice m1d m1m m1e, .bool m2.1.1, .slice m2a m2n m2c, .slice m2d m2m m2e, .bool m3.1.1, .slice m3a m3n m3c, .slice m3d m3m m3e, .bool m4.1.1, .slice m4a m4n m4c, .slice m4d m4m m4e, .bool m5.1.1, .slice m5a m5n m5c, .slice m5d m5m m5e, .bool m6.1.1, .slice m6a m6n m6c, .slice m6d m6m m6e] 37)).alloc (.cells #[.bool n1.1.1, .slice n1a n1n n1c, .slice n1d n1m n1e, .bool n2.1.1, .slice n2a n2n n2c, .slice n2d n2m n2e, .bool n3.1.1, .slice n3a n3n n3c, .slice n3d n3m n3e] 87))
    have HB := fun (w' : World) (h : More ((w.alloc (.cells #[.bool m1.1.1, .slice m1a m1n m1c, .slice m1d m1m m1e, .bool m2.1.1, .slice m2a m2n m2c, .slice m2d m2m m2e, .bool m3.1.1, .slice m3a m3n m3c, .slice m3d m3m m3e, .bool m4.1.1, .slice m4a m4n m4c, .slice m4d m4m m4e, .bool m5.1.1, .slice m5a m5n m5c, .slice m5d m5m m5e, .bool m6.1.1, .slice m6a m6n m6c, .slice m6d m6m m6e] 37)).alloc (.cells #[.bool n1.1.1, .slice n1a n1n n1c, .slice n1d n1m n1e, .bool n2.1.1, .slice n2a n2n n2c, .slice n2d n2m n2e, .bool n3.1.1, .slice n3a n3n n3c, .slice n3d n3m n3e] 87)) w') => And.intro (bx18 (w.heap.size) (by simp) (More.un h)) (bx9 (w.heap.size + 1) (by simp) h)
    have HC := fun (w' : World) (h : Turns [] _ w') => HB w' (Turns.more h)
    have HRK : ∀ w', More ((w.alloc (.cells #[.bool m1.1.1, .slice m1a m1n m1c, .slice m1d m1m m1e, .bool m2.1.1, .slice m2a m2n m2c, .slice m2d m2m m2e, .bool m3.1.1, .slice m3a m3n m3c, .slice m3d m3m m3e, .bool m4.1.1, .slice m4a m4n m4c, .slice m4d m4m m4e, .bool m5.1.1, .slice m5a m5n m5c, .slice m5d m5m m5e, .bool m6.1.1, .slice m6a m6n m6c, .slice m6d m6m m6e] 37)).alloc (.cells #[.bool n1.1.1, .slice n1a n1n n1c, .slice n1d n1m n1e, .bool n2.1.1, .slice n2a n2n n2c, .slice n2d n2m n2e, .bool n3.1.1, .slice n3a n3n n3c, .slice n3d n3m n3e] 87)) w' → w'.rangeAt (w.heap.size) 0 [.bool m1.1.1, .slice m1a m1n m1c, .slice m1d m1m m1e, .bool m2.1.1, .slice m2a m2n m2c, .slice m2d m2m m2e, .bool m3.1.1, .slice m3a m3n m3c, .slice m3d m3m m3e, .bool m4.1.1, .slice m4a m4n m4c, .slice m4d m4m m4e, .bool m5.1.1, .slice m5a m5n m5c, .slice m5d m5m m5e, .bool m6.1.1, .slice m6a m6n m6c, .slice m6d m6m m6e] := fun w' h => box_range (by simp) (More.un h)
    go_enter Try.func41, Try.ntmps41
    go_upto_region 2 with (first | (refine wpList_load_mid rfl _ _ rfl (w.heap.size) 0 rfl _ _ (HRK _ mC) Try.underlying37 rfl (by kernel_rfl) ?_) | (refine wpList_load_midG rfl _ _ rfl (w.heap.size) 0 rfl _ _ (HRK _ mC) Try.underlying37 rfl (by kernel_rfl) ?_) | (go_at_call 10; (with_reducible refine (spec_CellSide _ m1 m2 m3 m4 m5 m6 _ n1 lo hi _ _ (Ty.at_more HV0.out mC) HW0.out (Ty.at_more Hn1.out mC) Wn1.out HCS.out).mono ?_); rintro e w1 ⟨ua, va, ub, vb, rfl, hb1, f1⟩; obtain ⟨j1, j2, ej, jf, je⟩ := at_prod (Ty.fresh_at f1); obtain ⟨loa, lon, loc, lod, lom, loe, rfl⟩ := sh_Rat jf; obtain ⟨hia, hin, hic, hid, him, hie, rfl⟩ := sh_Rat je; simp only [List.cons_append, List.nil_append, List.cons.injEq, and_true, true_and] at ej; obtain ⟨q1, q2, q3, q4⟩ := ej; subst q1; subst q2; subst q3; subst q4; have Hlo := Lib.hid jf; have Hhi := Lib.hid je; clear f1 jf je; have HX1 := More.trans HX (show More _ w1 from mC); have HB1 := HB _ HX1; have hz1 := More.size HX1; (try simp at hz1); have hb1 := hb1))
    obtain ⟨w2, hW2⟩ : ∃ q9, ((w1.alloc (.cells #[.bool lo.1.1, .slice loa lon loc, .slice lod lom loe] 33)).alloc (.cells #[.bool hi.1.1, .slice hia hin hic, .slice hid him hie] 33)) = q9 := ⟨_, rfl⟩
    have hm2 : More ((w.alloc (.cells #[.bool m1.1.1, .slice m1a m1n m1c, .slice m1d m1m m1e, .bool m2.1.1, .slice m2a m2n m2c, .slice m2d m2m m2e, .bool m3.1.1, .slice m3a m3n m3c, .slice m3d m3m m3e, .bool m4.1.1, .slice m4a m4n m4c, .slice m4d m4m m4e, .bool m5.1.1, .slice m5a m5n m5c, .slice m5d m5m m5e, .bool m6.1.1, .slice m6a m6n m6c, .slice m6d m6m m6e] 37)).alloc (.cells #[.bool n1.1.1, .slice n1a n1n n1c, .slice n1d n1m n1e, .bool n2.1.1, .slice n2a n2n n2c, .slice n2d n2m n2e, .bool n3.1.1, .slice n3a n3n n3c, .slice n3d n3m n3e] 87)) w2 := by rw [← hW2]; exact mC
    have hB1 : Box3 w2 (w1.heap.size) (.bool lo.1.1) (.slice loa lon loc) (.slice lod lom loe) := by rw [← hW2]; exact Box3.new (X := w1) rfl (More.un (More.refl _))
    have hB2 : Box3 w2 (w1.heap.size + 1) (.bool hi.1.1) (.slice hia hin hic) (.slice hid him hie) := by rw [← hW2]; exact Box3.new (X := w1.alloc (.cells #[.bool lo.1.1, .slice loa lon loc, .slice lod lom loe] 33)) (by simp) (More.refl _)
    have hn1 := More.size HX1
    have hn2 : ((w.alloc (.cells #[.bool m1.1.1, .slice m1a m1n m1c, .slice m1d m1m m1e, .bool m2.1.1, .slice m2a m2n m2c, .slice m2d m2m m2e, .bool m3.1.1, .slice m3a m3n m3c, .slice m3d m3m m3e, .bool m4.1.1, .slice m4a m4n m4c, .slice m4d m4m m4e, .bool m5.1.1, .slice m5a m5n m5c, .slice m5d m5m m5e, .bool m6.1.1, .slice m6a m6n m6c, .slice m6d m6m m6e] 37)).alloc (.cells #[.bool n1.1.1, .slice n1a n1n n1c, .slice n1d n1m n1e, .bool n2.1.1, .slice n2a n2n n2c, .slice n2d n2m n2e, .bool n3.1.1, .slice n3a n3n n3c, .slice n3d n3m n3e] 87)).heap.size ≤ w1.heap.size + 1 := by have h9 := More.size HX1; omega
    have h12 : More w1 w2 := by rw [← hW2]; exact Turns.more (((Turns.refl [] _).alloc _).alloc _)
    rw [hW2]
    clear hW2
    have HC' := HC
    clear HC
    have HC := fun (w' : World) (h : Turns [] w2 w') => And.intro (HC' w' ((More.turns hm2 _).trans h)) (hB1.turn h (by simp))
    have HB' := HB
    clear HB HX
    have HB := fun (w' : World) (h : More w2 w') => And.intro (HB' w' (More.trans hm2 h)) (And.intro ((hB1.keep h).turn (More.turns (More.refl _) []) (by simp)) (hB1.keep h).fr)
    have HC' := HC
    clear HC
    have HC := fun (w' : World) (h : Turns [] w2 w') => And.intro (HC' w' ((More.turns (More.refl _) _).trans h)) (hB2.turn h (by simp))
    have HB' := HB
    clear HB
    have HB := fun (w' : World) (h : More w2 w') => And.intro (HB' w' (More.trans (More.refl _) h)) (And.intro ((hB2.keep h).turn (More.turns (More.refl _) []) (by simp)) (hB2.keep h).fr)
    have HBd := HB _ (More.refl _)
    clear hm2
    go_wp2_with (first | (refine wpList_load_mid rfl _ _ rfl (w.heap.size) 0 rfl _ _ (HRK _ mC) Try.underlying37 rfl (by kernel_rfl) ?_) | (refine wpList_load_midG rfl _ _ rfl (w.heap.size) 0 rfl _ _ (HRK _ mC) Try.underlying37 rfl (by kernel_rfl) ?_) | (go_at_call 89; (with_reducible refine (spec_IsValidCell _ m1 m2 m3 m4 m5 m6 _ (Ty.at_more HV0.out mC) HW0.out).mono ?_); rintro e w7 ⟨rfl, hb7⟩; have HX7 : More w2 w7 := mC; have HB7 := HB _ HX7; have hz7 := More.size HX7; (try simp at hz7); have hb7 := hb7; rw [KC.out]))
    go_ret
    exact ⟨ret_bool (by unfold cellMeetsB; rw [KC.out]; rfl), mC⟩
  have KC := Lib.hid kc; clear kc
  rcases Bool.eq_false_or_eq_true (wallB (n1, n2, n3)) with ka | ka
  rotate_left
  · have KW := Lib.hid ka; clear ka
    have HX := More.refl ((w.alloc (.cells #[.bool m1.1.1, .slice m1a m1n m1c, .slice m1d m1m m1e, .bool m2.1.1, .slice m2a m2n m2c, .slice m2d m2m m2e, .bool m3.1.1, .slice m3a m3n m3c, .slice m3d m3m m3e, .bool m4.1.1, .slice m4a m4n m4c, .slice m4d m4m m4e, .bool m5.1.1, .slice m5a m5n m5c, .slice m5d m5m m5e, .bool m6.1.1, .slice m6a m6n m6c, .slice m6d m6m m6e] 37)).alloc (.cells #[.bool n1.1.1, .slice n1a n1n n1c, .slice n1d n1m n1e, .bool n2.1.1, .slice n2a n2n n2c, .slice n2d n2m n2e, .bool n3.1.1, .slice n3a n3n n3c, .slice n3d n3m n3e] 87))
    have HB := fun (w' : World) (h : More ((w.alloc (.cells #[.bool m1.1.1, .slice m1a m1n m1c, .slice m1d m1m m1e, .bool m2.1.1, .slice m2a m2n m2c, .slice m2d m2m m2e, .bool m3.1.1, .slice m3a m3n m3c, .slice m3d m3m m3e, .bool m4.1.1, .slice m4a m4n m4c, .slice m4d m4m m4e, .bool m5.1.1, .slice m5a m5n m5c, .slice m5d m5m m5e, .bool m6.1.1, .slice m6a m6n m6c, .slice m6d m6m m6e] 37)).alloc (.cells #[.bool n1.1.1, .slice n1a n1n n1c, .slice n1d n1m n1e, .bool n2.1.1, .slice n2a n2n n2c, .slice n2d n2m n2e, .bool n3.1.1, .slice n3a n3n n3c, .slice n3d n3m n3e] 87)) w') => And.intro (bx18 (w.heap.size) (by simp) (More.un h)) (bx9 (w.heap.size + 1) (by simp) h)
    have HC := fun (w' : World) (h : Turns [] _ w') => HB w' (Turns.more h)
    have HRK : ∀ w', More ((w.alloc (.cells #[.bool m1.1.1, .slice m1a m1n m1c, .slice m1d m1m m1e, .bool m2.1.1, .slice m2a m2n m2c, .slice m2d m2m m2e, .bool m3.1.1, .slice m3a m3n m3c, .slice m3d m3m m3e, .bool m4.1.1, .slice m4a m4n m4c, .slice m4d m4m m4e, .bool m5.1.1, .slice m5a m5n m5c, .slice m5d m5m m5e, .bool m6.1.1, .slice m6a m6n m6c, .slice m6d m6m m6e] 37)).alloc (.cells #[.bool n1.1.1, .slice n1a n1n n1c, .slice n1d n1m n1e, .bool n2.1.1, .slice n2a n2n n2c, .slice n2d n2m n2e, .bool n3.1.1, .slice n3a n3n n3c, .slice n3d n3m n3e] 87)) w' → w'.rangeAt (w.heap.size) 0 [.bool m1.1.1, .slice m1a m1n m1c, .slice m1d m1m m1e, .bool m2.1.1, .slice m2a m2n m2c, .slice m2d m2m m2e, .bool m3.1.1, .slice m3a m3n m3c, .slice m3d m3m m3e, .bool m4.1.1, .slice m4a m4n m4c, .slice m4d m4m m4e, .bool m5.1.1, .slice m5a m5n m5c, .slice m5d m5m m5e, .bool m6.1.1, .slice m6a m6n m6c, .slice m6d m6m m6e] := fun w' h => box_range (by simp) (More.un h)
    go_enter Try.func41, Try.ntmps41
    go_upto_region 2 with (first | (refine wpList_load_mid rfl _ _ rfl (w.heap.size) 0 rfl _ _ (HRK _ mC) Try.underlying37 rfl (by kernel_rfl) ?_) | (refine wpList_load_midG rfl _ _ rfl (w.heap.size) 0 rfl _ _ (HRK _ mC) Try.underlying37 rfl (by kernel_rfl) ?_) | (go_at_call 10; (with_reducible refine (spec_CellSide _ m1 m2 m3 m4 m5 m6 _ n1 lo hi _ _ (Ty.at_more HV0.out mC) HW0.out (Ty.at_more Hn1.out mC) Wn1.out HCS.out).mono ?_); rintro e w1 ⟨ua, va, ub, vb, rfl, hb1, f1⟩; obtain ⟨j1, j2, ej, jf, je⟩ := at_prod (Ty.fresh_at f1); obtain ⟨loa, lon, loc, lod, lom, loe, rfl⟩ := sh_Rat jf; obtain ⟨hia, hin, hic, hid, him, hie, rfl⟩ := sh_Rat je; simp only [List.cons_append, List.nil_append, List.cons.injEq, and_true, true_and] at ej; obtain ⟨q1, q2, q3, q4⟩ := ej; subst q1; subst q2; subst q3; subst q4; have Hlo := Lib.hid jf; have Hhi := Lib.hid je; clear f1 jf je; have HX1 := More.trans HX (show More _ w1 from mC); have HB1 := HB _ HX1; have hz1 := More.size HX1; (try simp at hz1); have hb1 := hb1))
    obtain ⟨w2, hW2⟩ : ∃ q9, ((w1.alloc (.cells #[.bool lo.1.1, .slice loa lon loc, .slice lod lom loe] 33)).alloc (.cells #[.bool hi.1.1, .slice hia hin hic, .slice hid him hie] 33)) = q9 := ⟨_, rfl⟩
    have hm2 : More ((w.alloc (.cells #[.bool m1.1.1, .slice m1a m1n m1c, .slice m1d m1m m1e, .bool m2.1.1, .slice m2a m2n m2c, .slice m2d m2m m2e, .bool m3.1.1, .slice m3a m3n m3c, .slice m3d m3m m3e, .bool m4.1.1, .slice m4a m4n m4c, .slice m4d m4m m4e, .bool m5.1.1, .slice m5a m5n m5c, .slice m5d m5m m5e, .bool m6.1.1, .slice m6a m6n m6c, .slice m6d m6m m6e] 37)).alloc (.cells #[.bool n1.1.1, .slice n1a n1n n1c, .slice n1d n1m n1e, .bool n2.1.1, .slice n2a n2n n2c, .slice n2d n2m n2e, .bool n3.1.1, .slice n3a n3n n3c, .slice n3d n3m n3e] 87)) w2 := by rw [← hW2]; exact mC
    have hB1 : Box3 w2 (w1.heap.size) (.bool lo.1.1) (.slice loa lon loc) (.slice lod lom loe) := by rw [← hW2]; exact Box3.new (X := w1) rfl (More.un (More.refl _))
    have hB2 : Box3 w2 (w1.heap.size + 1) (.bool hi.1.1) (.slice hia hin hic) (.slice hid him hie) := by rw [← hW2]; exact Box3.new (X := w1.alloc (.cells #[.bool lo.1.1, .slice loa lon loc, .slice lod lom loe] 33)) (by simp) (More.refl _)
    have hn1 := More.size HX1
    have hn2 : ((w.alloc (.cells #[.bool m1.1.1, .slice m1a m1n m1c, .slice m1d m1m m1e, .bool m2.1.1, .slice m2a m2n m2c, .slice m2d m2m m2e, .bool m3.1.1, .slice m3a m3n m3c, .slice m3d m3m m3e, .bool m4.1.1, .slice m4a m4n m4c, .slice m4d m4m m4e, .bool m5.1.1, .slice m5a m5n m5c, .slice m5d m5m m5e, .bool m6.1.1, .slice m6a m6n m6c, .slice m6d m6m m6e] 37)).alloc (.cells #[.bool n1.1.1, .slice n1a n1n n1c, .slice n1d n1m n1e, .bool n2.1.1, .slice n2a n2n n2c, .slice n2d n2m n2e, .bool n3.1.1, .slice n3a n3n n3c, .slice n3d n3m n3e] 87)).heap.size ≤ w1.heap.size + 1 := by have h9 := More.size HX1; omega
    have h12 : More w1 w2 := by rw [← hW2]; exact Turns.more (((Turns.refl [] _).alloc _).alloc _)
    rw [hW2]
    clear hW2
    have HC' := HC
    clear HC
    have HC := fun (w' : World) (h : Turns [] w2 w') => And.intro (HC' w' ((More.turns hm2 _).trans h)) (hB1.turn h (by simp))
    have HB' := HB
    clear HB HX
    have HB := fun (w' : World) (h : More w2 w') => And.intro (HB' w' (More.trans hm2 h)) (And.intro ((hB1.keep h).turn (More.turns (More.refl _) []) (by simp)) (hB1.keep h).fr)
    have HC' := HC
    clear HC
    have HC := fun (w' : World) (h : Turns [] w2 w') => And.intro (HC' w' ((More.turns (More.refl _) _).trans h)) (hB2.turn h (by simp))
    have HB' := HB
    clear HB
    have HB := fun (w' : World) (h : More w2 w') => And.intro (HB' w' (More.trans (More.refl _) h)) (And.intro ((hB2.keep h).turn (More.turns (More.refl _) []) (by simp)) (hB2.keep h).fr)
    have HBd := HB _ (More.refl _)
    clear hm2
    go_wp2_with (first | (refine wpList_load_mid rfl _ _ rfl (w.heap.size) 0 rfl _ _ (HRK _ mC) Try.underlying37 rfl (by kernel_rfl) ?_) | (refine wpList_load_midG rfl _ _ rfl (w.heap.size) 0 rfl _ _ (HRK _ mC) Try.underlying37 rfl (by kernel_rfl) ?_) | (go_at_call 89; (with_reducible refine (spec_IsValidCell _ m1 m2 m3 m4 m5 m6 _ (Ty.at_more HV0.out mC) HW0.out).mono ?_); rintro e w7 ⟨rfl, hb7⟩; have HX7 : More w2 w7 := mC; have HB7 := HB _ HX7; have hz7 := More.size HX7; (try simp at hz7); have hb7 := hb7; rw [KC.out]) | (go_at_call 90; (with_reducible refine (spec_IsValidWall _ n1 n2 n3 _ (Ty.at_more HV1.out mC) HW1.out).mono ?_); rintro e w8 ⟨rfl, hb8⟩; have HX8 : More w2 w8 := mC; have HB8 := HB _ HX8; have hz8 := More.size HX8; (try simp at hz8); have hb8 := hb8; rw [KW.out]))
    go_ret
    exact ⟨ret_bool (by unfold cellMeetsB; rw [KC.out, KW.out]; rfl), mC⟩
  have KW := Lib.hid ka; clear ka
  obtain ⟨j1, j2, j3, j4, j5, j6⟩ := cellB_parts KC.out
  have Km1 := Lib.hid j1; clear j1
  have Km2 := Lib.hid j2; clear j2
  have Km3 := Lib.hid j3; clear j3
  have Km4 := Lib.hid j4; clear j4
  have Km5 := Lib.hid j5; clear j5
  have Km6 := Lib.hid j6; clear j6
  obtain ⟨j1, j2, j3⟩ := wallB_split KW.out
  have Kn1 := Lib.hid j1; clear j1
  have Kn2 := Lib.hid j2; clear j2
  have Kn3 := Lib.hid j3; clear j3
  have ho := csF_parts (P := fun x => ratOkB x = true) HCS.out Km3.out Km4.out Km5.out Km6.out
  have Klo := Lib.hid ho.1; have Khi := Lib.hid ho.2; clear ho
  have KMmaxlon2 := Lib.hid (maxQ_ok Klo.out Kn2.out); have WMmaxlon2 := Lib.hid (maxQ_w Wlo.out Wn2.out)
  have KMminhin3 := Lib.hid (minQ_ok Khi.out Kn3.out); have WMminhin3 := Lib.hid (minQ_w Whi.out Wn3.out)
  obtain ⟨c0, hc0⟩ : ∃ c, rCmp (maxQ lo n2) (minQ hi n3) = c := ⟨_, rfl⟩
  have C := Lib.hid hc0; clear hc0
  have HX := More.refl ((w.alloc (.cells #[.bool m1.1.1, .slice m1a m1n m1c, .slice m1d m1m m1e, .bool m2.1.1, .slice m2a m2n m2c, .slice m2d m2m m2e, .bool m3.1.1, .slice m3a m3n m3c, .slice m3d m3m m3e, .bool m4.1.1, .slice m4a m4n m4c, .slice m4d m4m m4e, .bool m5.1.1, .slice m5a m5n m5c, .slice m5d m5m m5e, .bool m6.1.1, .slice m6a m6n m6c, .slice m6d m6m m6e] 37)).alloc (.cells #[.bool n1.1.1, .slice n1a n1n n1c, .slice n1d n1m n1e, .bool n2.1.1, .slice n2a n2n n2c, .slice n2d n2m n2e, .bool n3.1.1, .slice n3a n3n n3c, .slice n3d n3m n3e] 87))
  have HB := fun (w' : World) (h : More ((w.alloc (.cells #[.bool m1.1.1, .slice m1a m1n m1c, .slice m1d m1m m1e, .bool m2.1.1, .slice m2a m2n m2c, .slice m2d m2m m2e, .bool m3.1.1, .slice m3a m3n m3c, .slice m3d m3m m3e, .bool m4.1.1, .slice m4a m4n m4c, .slice m4d m4m m4e, .bool m5.1.1, .slice m5a m5n m5c, .slice m5d m5m m5e, .bool m6.1.1, .slice m6a m6n m6c, .slice m6d m6m m6e] 37)).alloc (.cells #[.bool n1.1.1, .slice n1a n1n n1c, .slice n1d n1m n1e, .bool n2.1.1, .slice n2a n2n n2c, .slice n2d n2m n2e, .bool n3.1.1, .slice n3a n3n n3c, .slice n3d n3m n3e] 87)) w') => And.intro (bx18 (w.heap.size) (by simp) (More.un h)) (bx9 (w.heap.size + 1) (by simp) h)
  have HC := fun (w' : World) (h : Turns [] _ w') => HB w' (Turns.more h)
  have HRK : ∀ w', More ((w.alloc (.cells #[.bool m1.1.1, .slice m1a m1n m1c, .slice m1d m1m m1e, .bool m2.1.1, .slice m2a m2n m2c, .slice m2d m2m m2e, .bool m3.1.1, .slice m3a m3n m3c, .slice m3d m3m m3e, .bool m4.1.1, .slice m4a m4n m4c, .slice m4d m4m m4e, .bool m5.1.1, .slice m5a m5n m5c, .slice m5d m5m m5e, .bool m6.1.1, .slice m6a m6n m6c, .slice m6d m6m m6e] 37)).alloc (.cells #[.bool n1.1.1, .slice n1a n1n n1c, .slice n1d n1m n1e, .bool n2.1.1, .slice n2a n2n n2c, .slice n2d n2m n2e, .bool n3.1.1, .slice n3a n3n n3c, .slice n3d n3m n3e] 87)) w' → w'.rangeAt (w.heap.size) 0 [.bool m1.1.1, .slice m1a m1n m1c, .slice m1d m1m m1e, .bool m2.1.1, .slice m2a m2n m2c, .slice m2d m2m m2e, .bool m3.1.1, .slice m3a m3n m3c, .slice m3d m3m m3e, .bool m4.1.1, .slice m4a m4n m4c, .slice m4d m4m m4e, .bool m5.1.1, .slice m5a m5n m5c, .slice m5d m5m m5e, .bool m6.1.1, .slice m6a m6n m6c, .slice m6d m6m m6e] := fun w' h => box_range (by simp) (More.un h)
  go_enter Try.func41, Try.ntmps41
  go_upto_region 2 with (first | (refine wpList_load_mid rfl _ _ rfl (w.heap.size) 0 rfl _ _ (HRK _ mC) Try.underlying37 rfl (by kernel_rfl) ?_) | (refine wpList_load_midG rfl _ _ rfl (w.heap.size) 0 rfl _ _ (HRK _ mC) Try.underlying37 rfl (by kernel_rfl) ?_) | (go_at_call 10; (with_reducible refine (spec_CellSide _ m1 m2 m3 m4 m5 m6 _ n1 lo hi _ _ (Ty.at_more HV0.out mC) HW0.out (Ty.at_more Hn1.out mC) Wn1.out HCS.out).mono ?_); rintro e w1 ⟨ua, va, ub, vb, rfl, hb1, f1⟩; obtain ⟨j1, j2, ej, jf, je⟩ := at_prod (Ty.fresh_at f1); obtain ⟨loa, lon, loc, lod, lom, loe, rfl⟩ := sh_Rat jf; obtain ⟨hia, hin, hic, hid, him, hie, rfl⟩ := sh_Rat je; simp only [List.cons_append, List.nil_append, List.cons.injEq, and_true, true_and] at ej; obtain ⟨q1, q2, q3, q4⟩ := ej; subst q1; subst q2; subst q3; subst q4; have Hlo := Lib.hid jf; have Hhi := Lib.hid je; clear f1 jf je; have HX1 := More.trans HX (show More _ w1 from mC); have HB1 := HB _ HX1; have hz1 := More.size HX1; (try simp at hz1); have hb1 := hb1))
  obtain ⟨w2, hW2⟩ : ∃ q9, ((w1.alloc (.cells #[.bool lo.1.1, .slice loa lon loc, .slice lod lom loe] 33)).alloc (.cells #[.bool hi.1.1, .slice hia hin hic, .slice hid him hie] 33)) = q9 := ⟨_, rfl⟩
  have hm2 : More ((w.alloc (.cells #[.bool m1.1.1, .slice m1a m1n m1c, .slice m1d m1m m1e, .bool m2.1.1, .slice m2a m2n m2c, .slice m2d m2m m2e, .bool m3.1.1, .slice m3a m3n m3c, .slice m3d m3m m3e, .bool m4.1.1, .slice m4a m4n m4c, .slice m4d m4m m4e, .bool m5.1.1, .slice m5a m5n m5c, .slice m5d m5m m5e, .bool m6.1.1, .slice m6a m6n m6c, .slice m6d m6m m6e] 37)).alloc (.cells #[.bool n1.1.1, .slice n1a n1n n1c, .slice n1d n1m n1e, .bool n2.1.1, .slice n2a n2n n2c, .slice n2d n2m n2e, .bool n3.1.1, .slice n3a n3n n3c, .slice n3d n3m n3e] 87)) w2 := by rw [← hW2]; exact mC
  have hB1 : Box3 w2 (w1.heap.size) (.bool lo.1.1) (.slice loa lon loc) (.slice lod lom loe) := by rw [← hW2]; exact Box3.new (X := w1) rfl (More.un (More.refl _))
  have hB2 : Box3 w2 (w1.heap.size + 1) (.bool hi.1.1) (.slice hia hin hic) (.slice hid him hie) := by rw [← hW2]; exact Box3.new (X := w1.alloc (.cells #[.bool lo.1.1, .slice loa lon loc, .slice lod lom loe] 33)) (by simp) (More.refl _)
  have hn1 := More.size HX1
  have hn2 : ((w.alloc (.cells #[.bool m1.1.1, .slice m1a m1n m1c, .slice m1d m1m m1e, .bool m2.1.1, .slice m2a m2n m2c, .slice m2d m2m m2e, .bool m3.1.1, .slice m3a m3n m3c, .slice m3d m3m m3e, .bool m4.1.1, .slice m4a m4n m4c, .slice m4d m4m m4e, .bool m5.1.1, .slice m5a m5n m5c, .slice m5d m5m m5e, .bool m6.1.1, .slice m6a m6n m6c, .slice m6d m6m m6e] 37)).alloc (.cells #[.bool n1.1.1, .slice n1a n1n n1c, .slice n1d n1m n1e, .bool n2.1.1, .slice n2a n2n n2c, .slice n2d n2m n2e, .bool n3.1.1, .slice n3a n3n n3c, .slice n3d n3m n3e] 87)).heap.size ≤ w1.heap.size + 1 := by have h9 := More.size HX1; omega
  have h12 : More w1 w2 := by rw [← hW2]; exact Turns.more (((Turns.refl [] _).alloc _).alloc _)
  rw [hW2]
  clear hW2
  have HC' := HC
  clear HC
  have HC := fun (w' : World) (h : Turns [] w2 w') => And.intro (HC' w' ((More.turns hm2 _).trans h)) (hB1.turn h (by simp))
  have HB' := HB
  clear HB HX
  have HB := fun (w' : World) (h : More w2 w') => And.intro (HB' w' (More.trans hm2 h)) (And.intro ((hB1.keep h).turn (More.turns (More.refl _) []) (by simp)) (hB1.keep h).fr)
  have HC' := HC
  clear HC
  have HC := fun (w' : World) (h : Turns [] w2 w') => And.intro (HC' w' ((More.turns (More.refl _) _).trans h)) (hB2.turn h (by simp))
  have HB' := HB
  clear HB
  have HB := fun (w' : World) (h : More w2 w') => And.intro (HB' w' (More.trans (More.refl _) h)) (And.intro ((hB2.keep h).turn (More.turns (More.refl _) []) (by simp)) (hB2.keep h).fr)
  have HBd := HB _ (More.refl _)
  clear hm2
  go_wp2_with (first | (refine wpList_load_mid rfl _ _ rfl (w.heap.size) 0 rfl _ _ (HRK _ mC) Try.underlying37 rfl (by kernel_rfl) ?_) | (refine wpList_load_midG rfl _ _ rfl (w.heap.size) 0 rfl _ _ (HRK _ mC) Try.underlying37 rfl (by kernel_rfl) ?_) | (go_at_call 89; (with_reducible refine (spec_IsValidCell _ m1 m2 m3 m4 m5 m6 _ (Ty.at_more HV0.out mC) HW0.out).mono ?_); rintro e w7 ⟨rfl, hb7⟩; have HX7 : More w2 w7 := mC; have HB7 := HB _ HX7; have hz7 := More.size HX7; (try simp at hz7); have hb7 := hb7; rw [KC.out]) | (go_at_call 90; (with_reducible refine (spec_IsValidWall _ n1 n2 n3 _ (Ty.at_more HV1.out mC) HW1.out).mono ?_); rintro e w8 ⟨rfl, hb8⟩; have HX8 : More w2 w8 := mC; have HB8 := HB _ HX8; have hz8 := More.size HX8; (try simp at hz8); have hb8 := hb8; rw [KW.out]))
  refine wp_region_held_drew (S := (fun w' => Turns [] w2 w')) (by kernel_rfl) ?_ (fun hHeld => ?_)
  · first | exact tC | exact mC2
  refine tk (v := ?_) 0 ⟨some 28, _, _, _, _, _⟩ rfl ?_ ?_
  rotate_left 2
  · (intro w hSw; (try dsimp only at hSw); go_simp; (try with_reducible rfl))
  (try simp only [Act.put, tkA, tkB, tkC])
  refine tk (v := ?_) 1 ⟨some 29, _, _, _, _, _⟩ rfl ?_ ?_
  rotate_left 2
  · (intro w hSw; (try dsimp only at hSw); go_simp; (try with_reducible rfl))
  (try simp only [Act.put, tkA, tkB, tkC])
  refine tk (v := ?_) 2 ⟨some 30, _, _, _, _, _⟩ rfl ?_ ?_
  rotate_left 2
  · (intro w hSw; (try dsimp only at hSw); go_simp; (try with_reducible rfl))
  (try simp only [Act.put, tkA, tkB, tkC])
  refine tk (v := ?_) 4 ⟨some 32, _, _, _, _, _⟩ rfl ?_ ?_
  rotate_left 2
  · (intro w hSw; (try dsimp only at hSw); go_simp; (try with_reducible rfl))
  (try simp only [Act.put, tkA, tkB, tkC])
  refine tk (v := ?_) 5 ⟨some 33, _, _, _, _, _⟩ rfl ?_ ?_
  rotate_left 2
  · (intro w hSw; (try dsimp only at hSw); go_simp; (try with_reducible rfl))
  (try simp only [Act.put, tkA, tkB, tkC])
  refine tk (v := ?_) 6 ⟨some 34, _, _, _, _, _⟩ rfl ?_ ?_
  rotate_left 2
  · (intro w hSw; (try dsimp only at hSw); go_simp; (try with_reducible rfl))
  (try simp only [Act.put, tkA, tkB, tkC])
  refine wpAnyH_ready (rs := [3]) (by kernel_rfl) (by simp) ?_
  refine AllReadyH.cons (o := ⟨some 31, _, _, _, _, _⟩) rfl (fun K hK => ?_) AllReadyH.nil
  go_simp
  (go_at_call 92; (with_reducible refine (spec_RatMax _ lo _ n2 _ (Ty.at_more Hlo.out mC) Wlo.out (Ty.at_more Hn2.out mC) Wn2.out Klo.out Kn2.out).mono ?_); rintro e w3 ⟨u3, v3, rfl, hb3, g3⟩; obtain ⟨r3a, r3n, r3c, r3d, r3m, r3e, e9⟩ := sh_Rat g3; simp only [List.cons.injEq, and_true, true_and] at e9; obtain ⟨e8, e9⟩ := e9; subst e8; subst e9; have G3 := Lib.hid g3; clear g3; have HX3 : More w2 w3 := mC; have HB3 := HB _ HX3; have hz3 := More.size HX3; (try simp at hz3); have hb3 := hb3)
  refine hK.out _ _ ?_ (fun hHeld => ?_)
  · first | exact tC | exact mC2
  clear hK K
  (try simp only [Act.put, tkA, tkB, tkC])
  refine wpAnyH_ready (rs := [7]) (by kernel_rfl) (by simp) ?_
  refine AllReadyH.cons (o := ⟨some 35, _, _, _, _, _⟩) rfl (fun K hK => ?_) AllReadyH.nil
  go_simp
  (go_at_call 93; (with_reducible refine (spec_RatMin _ hi _ n3 _ (Ty.at_more Hhi.out mC) Whi.out (Ty.at_more Hn3.out mC) Wn3.out Khi.out Kn3.out).mono ?_); rintro e w4 ⟨u4, v4, rfl, hb4, g4⟩; obtain ⟨r4a, r4n, r4c, r4d, r4m, r4e, e9⟩ := sh_Rat g4; simp only [List.cons.injEq, and_true, true_and] at e9; obtain ⟨e8, e9⟩ := e9; subst e8; subst e9; have G4 := Lib.hid g4; clear g4; have HX4 : More w2 w4 := mC; have HB4 := HB _ HX4; have hz4 := More.size HX4; (try simp at hz4); have hb4 := hb4)
  refine hK.out _ _ ?_ (fun hHeld => ?_)
  · first | exact tC | exact mC2
  clear hK K
  (try simp only [Act.put, tkA, tkB, tkC])
  refine wpAnyH_ready (rs := [8]) (by kernel_rfl) (by simp) ?_
  refine AllReadyH.cons (o := ⟨some 36, _, _, _, _, _⟩) rfl (fun K hK => ?_) AllReadyH.nil
  go_simp
  (go_at_call 91; (with_reducible refine (spec_RatCmpX (maxQ lo n2) (maxQ lo n2).1.1 (.slice r3a r3n r3c) (.slice r3d r3m r3e) (minQ hi n3) (minQ hi n3).1.1 (.slice r4a r4n r4c) (.slice r4d r4m r4e) _ (Ty.at_more G3.out mC) WMmaxlon2.out (Ty.at_more G4.out mC) WMminhin3.out).mono ?_); rintro e w5 ⟨rfl, hb5⟩; rw [C.out]; have HX5 : More w2 w5 := mC; have HB5 := HB _ HX5; have hz5 := More.size HX5; (try simp at hz5); have hb5 := hb5)
  refine hK.out _ _ ?_ (fun hHeld => ?_)
  · first | exact tC | exact mC2
  clear hK K
  (try simp only [Act.put, tkA, tkB, tkC])
  refine tk (v := ?_) 9 ⟨some 37, _, _, _, _, _⟩ rfl ?_ ?_
  rotate_left 2
  · (intro w hSw; (try dsimp only at hSw); go_simp; (try with_reducible rfl))
  (try simp only [Act.put, tkA, tkB, tkC])
  refine tk (v := ?_) 10 ⟨some 4, _, _, _, _, _⟩ rfl ?_ ?_
  rotate_left 2
  · (intro w hSw; (try dsimp only at hSw); go_simp; (try with_reducible rfl))
  (try simp only [Act.put, tkA, tkB, tkC])
  refine wpAnyH_done (by kernel_rfl) ?_ _
  go_wp2_with fail
  go_ret
  exact ⟨ret_bool (by unfold cellMeetsB; rw [KC.out, KW.out, HCM.out, C.out]; simp), mC⟩
end Go.Proofs.Yteihkhniibncnaa
