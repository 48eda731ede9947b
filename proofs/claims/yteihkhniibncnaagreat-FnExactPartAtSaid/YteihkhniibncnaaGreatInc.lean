/- Points in cells. -/
import Derived.Test.YteihkhniibncnaaGreatThn
import Derived.Test.YteihkhniibncnaaGreatBx6
import Derived.Test.YteihkhniibncnaaGreatCel
import Derived.Test.YteihkhniibncnaaGreatSid
import Derived.Test.YteihkhniibncnaaGreatRng
namespace Go.Proofs.YteihkhniibncnaaGreat
open Go.RowKit
noncomputable def inC (k : QCell) (p : QP) : Bool := decide (0 < rCmp p.1 k.1) && (decide (rCmp p.1 k.2.1 < 0) && (decide (0 < sideF (k.1, k.2.2.1) (k.2.1, k.2.2.2.1) p) && decide (sideF (k.1, k.2.2.2.2.1) (k.2.1, k.2.2.2.2.2) p < 0)))
noncomputable def inCellB (k : QCell) (p : QP) : Bool := cellB k && (pointB p && inC k p)
theorem cellB_parts {m1 m2 m3 m4 m5 m6 : QR} (h : cellB (m1, m2, m3, m4, m5, m6) = true) : ratOkB m1 = true ∧ ratOkB m2 = true ∧ ratOkB m3 = true ∧ ratOkB m4 = true ∧ ratOkB m5 = true ∧ ratOkB m6 = true := by
  unfold cellB at h
  simp only [List.all_cons, List.all_nil, Bool.and_true, Bool.and_eq_true] at h
  exact ⟨h.1.1, h.1.2.1, h.1.2.2.1, h.1.2.2.2.1, h.1.2.2.2.2.1, h.1.2.2.2.2.2⟩
theorem inC_no1 {k : QCell} {p : QP} {c : Int} (h : rCmp p.1 k.1 = c) (hc : c ≤ 0) : inC k p = false := by unfold inC; rw [h, decide_eq_false (by omega)]; rfl
theorem inC_no2 {k : QCell} {p : QP} {c : Int} (h : rCmp p.1 k.2.1 = c) (hc : 0 ≤ c) : inC k p = false := by unfold inC; rw [h, decide_eq_false (show ¬ c < 0 by omega), Bool.false_and, Bool.and_false]
theorem inC_yes {k : QCell} {p : QP} {c d lo hi : Int} (h1 : rCmp p.1 k.1 = c) (h2 : rCmp p.1 k.2.1 = d) (h3 : sideF (k.1, k.2.2.1) (k.2.1, k.2.2.2.1) p = lo) (h4 : sideF (k.1, k.2.2.2.2.1) (k.2.1, k.2.2.2.2.2) p = hi) (hc : 0 < c) (hd : d < 0) : inC k p = (decide (0 < lo) && decide (hi < 0)) := by
  unfold inC
  rw [h1, h2, h3, h4, decide_eq_true hc, decide_eq_true hd, Bool.true_and, Bool.true_and]
theorem pt_at {w : World} {c1 c2 : List Value} {x y : QR} (h1 : tRat.at w c1 x) (h2 : tRat.at w c2 y) : tPoint.at w (c1 ++ c2) (x, y) := prod_at h1 h2
set_option maxRecDepth 8000 in
set_option maxHeartbeats 12800000 in
theorem impl_inCell (cs0 : List Value) (m1 m2 m3 m4 m5 m6 : QR) (cs1 : List Value) (p1 p2 : QR) (w : World) (hv0 : tCell.at w cs0 (m1, m2, m3, m4, m5, m6)) (hw0 : wCell (m1, m2, m3, m4, m5, m6) ≤ 1048576) (hv1 : tPoint.at w cs1 (p1, p2)) (hw1 : wPoint (p1, p2) ≤ 1048576) (km1 : ratOkB m1 = true) (km2 : ratOkB m2 = true) (km3 : ratOkB m3 = true) (km4 : ratOkB m4 = true) (km5 : ratOkB m5 = true) (km6 : ratOkB m6 = true) (kp1 : ratOkB p1 = true) (kp2 : ratOkB p2 = true) :
    Calls Tryz.prog 159 #[.agg cs0.toArray, .agg cs1.toArray] w fun e w' => e = .returned (.bool (inC (m1, m2, m3, m4, m5, m6) (p1, p2))) ∧ More w w' := by
  obtain ⟨k0, d0, rfl, f0, e0⟩ := at_prod hv0
  obtain ⟨k1, d1, rfl, f1, e1⟩ := at_prod e0
  obtain ⟨k2, d2, rfl, f2, e2⟩ := at_prod e1
  obtain ⟨k3, d3, rfl, f3, e3⟩ := at_prod e2
  obtain ⟨k4, d4, rfl, f4, e4⟩ := at_prod e3
  have f5 := e4; clear e4
  have f0 : tRat.at w _ m1 := f0
  obtain ⟨m1a, m1n, m1c, m1d, m1m, m1e, rfl⟩ := sh_Rat f0
  have Hm1 := Lib.hid f0; clear f0
  try clear f0
  have Wm1 : Hid (wRat m1 ≤ 1048576) := Lib.hid (by have h := hw0; unfold wCell at h; dsimp only at h; omega)
  have f1 : tRat.at w _ m2 := f1
  obtain ⟨m2a, m2n, m2c, m2d, m2m, m2e, rfl⟩ := sh_Rat f1
  have Hm2 := Lib.hid f1; clear f1
  try clear f1
  have Wm2 : Hid (wRat m2 ≤ 1048576) := Lib.hid (by have h := hw0; unfold wCell at h; dsimp only at h; omega)
  have f2 : tRat.at w _ m3 := f2
  obtain ⟨m3a, m3n, m3c, m3d, m3m, m3e, rfl⟩ := sh_Rat f2
  have Hm3 := Lib.hid f2; clear f2
  try clear f2
  have Wm3 : Hid (wRat m3 ≤ 1048576) := Lib.hid (by have h := hw0; unfold wCell at h; dsimp only at h; omega)
  have f3 : tRat.at w _ m4 := f3
  obtain ⟨m4a, m4n, m4c, m4d, m4m, m4e, rfl⟩ := sh_Rat f3
  have Hm4 := Lib.hid f3; clear f3
  try clear f3
  have Wm4 : Hid (wRat m4 ≤ 1048576) := Lib.hid (by have h := hw0; unfold wCell at h; dsimp only at h; omega)
  have f4 : tRat.at w _ m5 := f4
  obtain ⟨m5a, m5n, m5c, m5d, m5m, m5e, rfl⟩ := sh_Rat f4
  have Hm5 := Lib.hid f4; clear f4
  try clear f4
  have Wm5 : Hid (wRat m5 ≤ 1048576) := Lib.hid (by have h := hw0; unfold wCell at h; dsimp only at h; omega)
  have f5 : tRat.at w _ m6 := f5
  obtain ⟨m6a, m6n, m6c, m6d, m6m, m6e, rfl⟩ := sh_Rat f5
  have Hm6 := Lib.hid f5; clear f5
  try clear f5
  have Wm6 : Hid (wRat m6 ≤ 1048576) := Lib.hid (by have h := hw0; unfold wCell at h; dsimp only at h; omega)
  try clear e0 e1 e2 e3 e4 e5
  have HV0 : Hid (tCell.at w [.bool m1.1.1, .slice m1a m1n m1c, .slice m1d m1m m1e, .bool m2.1.1, .slice m2a m2n m2c, .slice m2d m2m m2e, .bool m3.1.1, .slice m3a m3n m3c, .slice m3d m3m m3e, .bool m4.1.1, .slice m4a m4n m4c, .slice m4d m4m m4e, .bool m5.1.1, .slice m5a m5n m5c, .slice m5d m5m m5e, .bool m6.1.1, .slice m6a m6n m6c, .slice m6d m6m m6e] (m1, m2, m3, m4, m5, m6)) := Lib.hid hv0; have HW0 := Lib.hid hw0; clear hv0 hw0
  obtain ⟨k0, d0, rfl, f0, e0⟩ := at_prod hv1
  have f1 := e0; clear e0
  have f0 : tRat.at w _ p1 := f0
  obtain ⟨p1a, p1n, p1c, p1d, p1m, p1e, rfl⟩ := sh_Rat f0
  have Hp1 := Lib.hid f0; clear f0
  try clear f0
  have Wp1 : Hid (wRat p1 ≤ 1048576) := Lib.hid (by have h := hw1; unfold wPoint at h; dsimp only at h; omega)
  have f1 : tRat.at w _ p2 := f1
  obtain ⟨p2a, p2n, p2c, p2d, p2m, p2e, rfl⟩ := sh_Rat f1
  have Hp2 := Lib.hid f1; clear f1
  try clear f1
  have Wp2 : Hid (wRat p2 ≤ 1048576) := Lib.hid (by have h := hw1; unfold wPoint at h; dsimp only at h; omega)
  try clear e0 e1
  have HV1 : Hid (tPoint.at w [.bool p1.1.1, .slice p1a p1n p1c, .slice p1d p1m p1e, .bool p2.1.1, .slice p2a p2n p2c, .slice p2d p2m p2e] (p1, p2)) := Lib.hid hv1; have HW1 := Lib.hid hw1; clear hv1 hw1
  have Km1 := Lib.hid km1; clear km1
  have Km2 := Lib.hid km2; clear km2
  have Km3 := Lib.hid km3; clear km3
  have Km4 := Lib.hid km4; clear km4
  have Km5 := Lib.hid km5; clear km5
  have Km6 := Lib.hid km6; clear km6
  have Kp1 := Lib.hid kp1; clear kp1
  have Kp2 := Lib.hid kp2; clear kp2
  show Calls Tryz.prog 159 #[.agg #[.bool m1.1.1, .slice m1a m1n m1c, .slice m1d m1m m1e, .bool m2.1.1, .slice m2a m2n m2c, .slice m2d m2m m2e, .bool m3.1.1, .slice m3a m3n m3c, .slice m3d m3m m3e, .bool m4.1.1, .slice m4a m4n m4c, .slice m4d m4m m4e, .bool m5.1.1, .slice m5a m5n m5c, .slice m5d m5m m5e, .bool m6.1.1, .slice m6a m6n m6c, .slice m6d m6m m6e], .agg #[.bool p1.1.1, .slice p1a p1n p1c, .slice p1d p1m p1e, .bool p2.1.1, .slice p2a p2n p2c, .slice p2d p2m p2e]] w _
  obtain ⟨c, hc⟩ : ∃ c, rCmp p1 m1 = c := ⟨_, rfl⟩
  have Cc := Lib.hid hc; clear hc
  obtain ⟨d, hd⟩ : ∃ c, rCmp p1 m2 = c := ⟨_, rfl⟩
  have Cd := Lib.hid hd; clear hd
  obtain ⟨lo, hlo⟩ : ∃ c, sideF (m1, m3) (m2, m4) (p1, p2) = c := ⟨_, rfl⟩
  have Cl := Lib.hid hlo; clear hlo
  obtain ⟨hi, hhi⟩ : ∃ c, sideF (m1, m5) (m2, m6) (p1, p2) = c := ⟨_, rfl⟩
  have Ch := Lib.hid hhi; clear hhi
  by_cases hc : c ≤ 0
  · rw [inC_no1 (k := (m1, m2, m3, m4, m5, m6)) (p := (p1, p2)) Cc.out hc]
    have HX := More.refl ((w.alloc (.cells #[.bool m1.1.1, .slice m1a m1n m1c, .slice m1d m1m m1e, .bool m2.1.1, .slice m2a m2n m2c, .slice m2d m2m m2e, .bool m3.1.1, .slice m3a m3n m3c, .slice m3d m3m m3e, .bool m4.1.1, .slice m4a m4n m4c, .slice m4d m4m m4e, .bool m5.1.1, .slice m5a m5n m5c, .slice m5d m5m m5e, .bool m6.1.1, .slice m6a m6n m6c, .slice m6d m6m m6e] 62)).alloc (.cells #[.bool p1.1.1, .slice p1a p1n p1c, .slice p1d p1m p1e, .bool p2.1.1, .slice p2a p2n p2c, .slice p2d p2m p2e] 47))
    have HB := fun (w' : World) (h : More ((w.alloc (.cells #[.bool m1.1.1, .slice m1a m1n m1c, .slice m1d m1m m1e, .bool m2.1.1, .slice m2a m2n m2c, .slice m2d m2m m2e, .bool m3.1.1, .slice m3a m3n m3c, .slice m3d m3m m3e, .bool m4.1.1, .slice m4a m4n m4c, .slice m4d m4m m4e, .bool m5.1.1, .slice m5a m5n m5c, .slice m5d m5m m5e, .bool m6.1.1, .slice m6a m6n m6c, .slice m6d m6m m6e] 62)).alloc (.cells #[.bool p1.1.1, .slice p1a p1n p1c, .slice p1d p1m p1e, .bool p2.1.1, .slice p2a p2n p2c, .slice p2d p2m p2e] 47)) w') => And.intro (bx18 (w.heap.size) (by simp) (More.un h)) (bx6 (w.heap.size + 1) (by simp) h)
    have HC := fun (w' : World) (h : Turns [] _ w') => HB w' (Turns.more h)
    go_enter Tryz.func159, Tryz.ntmps159
    go_wp2_with (first | (go_at_call 134; (with_reducible refine (impl_ratCmpX p1 p1.1.1 (.slice p1a p1n p1c) (.slice p1d p1m p1e) m1 m1.1.1 (.slice m1a m1n m1c) (.slice m1d m1m m1e) _ Kp1.out Km1.out (Ty.at_more Hp1.out mC) (Ty.at_more Hm1.out mC)).mono ?_); rintro e w1 ⟨rfl, hb1⟩; have HX1 := More.trans HX (show More _ w1 from mC); have HB1 := HB _ HX1; have hz1 := More.size HX1; (try simp at hz1); have hb1 := hb1; rw [Cc.out]) | (go_at_call 134; (with_reducible refine (impl_ratCmpX p1 p1.1.1 (.slice p1a p1n p1c) (.slice p1d p1m p1e) m2 m2.1.1 (.slice m2a m2n m2c) (.slice m2d m2m m2e) _ Kp1.out Km2.out (Ty.at_more Hp1.out mC) (Ty.at_more Hm2.out mC)).mono ?_); rintro e w2 ⟨rfl, hb2⟩; have HX2 := More.trans HX (show More _ w2 from mC); have HB2 := HB _ HX2; have hz2 := More.size HX2; (try simp at hz2); have hb2 := hb2; rw [Cd.out]))
    go_ret
    exact ⟨rfl, mC⟩
  by_cases hd : 0 ≤ d
  · rw [inC_no2 (k := (m1, m2, m3, m4, m5, m6)) (p := (p1, p2)) Cd.out hd]
    have HX := More.refl ((w.alloc (.cells #[.bool m1.1.1, .slice m1a m1n m1c, .slice m1d m1m m1e, .bool m2.1.1, .slice m2a m2n m2c, .slice m2d m2m m2e, .bool m3.1.1, .slice m3a m3n m3c, .slice m3d m3m m3e, .bool m4.1.1, .slice m4a m4n m4c, .slice m4d m4m m4e, .bool m5.1.1, .slice m5a m5n m5c, .slice m5d m5m m5e, .bool m6.1.1, .slice m6a m6n m6c, .slice m6d m6m m6e] 62)).alloc (.cells #[.bool p1.1.1, .slice p1a p1n p1c, .slice p1d p1m p1e, .bool p2.1.1, .slice p2a p2n p2c, .slice p2d p2m p2e] 47))
    have HB := fun (w' : World) (h : More ((w.alloc (.cells #[.bool m1.1.1, .slice m1a m1n m1c, .slice m1d m1m m1e, .bool m2.1.1, .slice m2a m2n m2c, .slice m2d m2m m2e, .bool m3.1.1, .slice m3a m3n m3c, .slice m3d m3m m3e, .bool m4.1.1, .slice m4a m4n m4c, .slice m4d m4m m4e, .bool m5.1.1, .slice m5a m5n m5c, .slice m5d m5m m5e, .bool m6.1.1, .slice m6a m6n m6c, .slice m6d m6m m6e] 62)).alloc (.cells #[.bool p1.1.1, .slice p1a p1n p1c, .slice p1d p1m p1e, .bool p2.1.1, .slice p2a p2n p2c, .slice p2d p2m p2e] 47)) w') => And.intro (bx18 (w.heap.size) (by simp) (More.un h)) (bx6 (w.heap.size + 1) (by simp) h)
    have HC := fun (w' : World) (h : Turns [] _ w') => HB w' (Turns.more h)
    go_enter Tryz.func159, Tryz.ntmps159
    go_wp2_with (first | (go_at_call 134; (with_reducible refine (impl_ratCmpX p1 p1.1.1 (.slice p1a p1n p1c) (.slice p1d p1m p1e) m1 m1.1.1 (.slice m1a m1n m1c) (.slice m1d m1m m1e) _ Kp1.out Km1.out (Ty.at_more Hp1.out mC) (Ty.at_more Hm1.out mC)).mono ?_); rintro e w1 ⟨rfl, hb1⟩; have HX1 := More.trans HX (show More _ w1 from mC); have HB1 := HB _ HX1; have hz1 := More.size HX1; (try simp at hz1); have hb1 := hb1; rw [Cc.out]) | (go_at_call 134; (with_reducible refine (impl_ratCmpX p1 p1.1.1 (.slice p1a p1n p1c) (.slice p1d p1m p1e) m2 m2.1.1 (.slice m2a m2n m2c) (.slice m2d m2m m2e) _ Kp1.out Km2.out (Ty.at_more Hp1.out mC) (Ty.at_more Hm2.out mC)).mono ?_); rintro e w2 ⟨rfl, hb2⟩; have HX2 := More.trans HX (show More _ w2 from mC); have HB2 := HB _ HX2; have hz2 := More.size HX2; (try simp at hz2); have hb2 := hb2; rw [Cd.out]))
    go_ret
    exact ⟨rfl, mC⟩
  rw [inC_yes (k := (m1, m2, m3, m4, m5, m6)) (p := (p1, p2)) Cc.out Cd.out Cl.out Ch.out (by omega) (by omega)]
  have HX := More.refl ((w.alloc (.cells #[.bool m1.1.1, .slice m1a m1n m1c, .slice m1d m1m m1e, .bool m2.1.1, .slice m2a m2n m2c, .slice m2d m2m m2e, .bool m3.1.1, .slice m3a m3n m3c, .slice m3d m3m m3e, .bool m4.1.1, .slice m4a m4n m4c, .slice m4d m4m m4e, .bool m5.1.1, .slice m5a m5n m5c, .slice m5d m5m m5e, .bool m6.1.1, .slice m6a m6n m6c, .slice m6d m6m m6e] 62)).alloc (.cells #[.bool p1.1.1, .slice p1a p1n p1c, .slice p1d p1m p1e, .bool p2.1.1, .slice p2a p2n p2c, .slice p2d p2m p2e] 47))
  have HB := fun (w' : World) (h : More ((w.alloc (.cells #[.bool m1.1.1, .slice m1a m1n m1c, .slice m1d m1m m1e, .bool m2.1.1, .slice m2a m2n m2c, .slice m2d m2m m2e, .bool m3.1.1, .slice m3a m3n m3c, .slice m3d m3m m3e, .bool m4.1.1, .slice m4a m4n m4c, .slice m4d m4m m4e, .bool m5.1.1, .slice m5a m5n m5c, .slice m5d m5m m5e, .bool m6.1.1, .slice m6a m6n m6c, .slice m6d m6m m6e] 62)).alloc (.cells #[.bool p1.1.1, .slice p1a p1n p1c, .slice p1d p1m p1e, .bool p2.1.1, .slice p2a p2n p2c, .slice p2d p2m p2e] 47)) w') => And.intro (bx18 (w.heap.size) (by simp) (More.un h)) (bx6 (w.heap.size + 1) (by simp) h)
  have HC := fun (w' : World) (h : Turns [] _ w') => HB w' (Turns.more h)
  go_enter Tryz.func159, Tryz.ntmps159
  go_wp2_with (first | (go_at_call 134; (with_reducible refine (impl_ratCmpX p1 p1.1.1 (.slice p1a p1n p1c) (.slice p1d p1m p1e) m1 m1.1.1 (.slice m1a m1n m1c) (.slice m1d m1m m1e) _ Kp1.out Km1.out (Ty.at_more Hp1.out mC) (Ty.at_more Hm1.out mC)).mono ?_); rintro e w1 ⟨rfl, hb1⟩; have HX1 := More.trans HX (show More _ w1 from mC); have HB1 := HB _ HX1; have hz1 := More.size HX1; (try simp at hz1); have hb1 := hb1; rw [Cc.out]) | (go_at_call 134; (with_reducible refine (impl_ratCmpX p1 p1.1.1 (.slice p1a p1n p1c) (.slice p1d p1m p1e) m2 m2.1.1 (.slice m2a m2n m2c) (.slice m2d m2m m2e) _ Kp1.out Km2.out (Ty.at_more Hp1.out mC) (Ty.at_more Hm2.out mC)).mono ?_); rintro e w2 ⟨rfl, hb2⟩; have HX2 := More.trans HX (show More _ w2 from mC); have HB2 := HB _ HX2; have hz2 := More.size HX2; (try simp at hz2); have hb2 := hb2; rw [Cd.out]))
  go_cut [5, 6] (fun sl1 sl2 wx => ∃ (nb1 nb2 : Nat), sl1 = .pointer (some ⟨nb1, 0, none⟩) ∧ sl2 = .pointer (some ⟨nb2, 0, none⟩) ∧ More ((w.alloc (.cells #[.bool m1.1.1, .slice m1a m1n m1c, .slice m1d m1m m1e, .bool m2.1.1, .slice m2a m2n m2c, .slice m2d m2m m2e, .bool m3.1.1, .slice m3a m3n m3c, .slice m3d m3m m3e, .bool m4.1.1, .slice m4a m4n m4c, .slice m4d m4m m4e, .bool m5.1.1, .slice m5a m5n m5c, .slice m5d m5m m5e, .bool m6.1.1, .slice m6a m6n m6c, .slice m6d m6m m6e] 62)).alloc (.cells #[.bool p1.1.1, .slice p1a p1n p1c, .slice p1d p1m p1e, .bool p2.1.1, .slice p2a p2n p2c, .slice p2d p2m p2e] 47)) wx ∧ (((w.alloc (.cells #[.bool m1.1.1, .slice m1a m1n m1c, .slice m1d m1m m1e, .bool m2.1.1, .slice m2a m2n m2c, .slice m2d m2m m2e, .bool m3.1.1, .slice m3a m3n m3c, .slice m3d m3m m3e, .bool m4.1.1, .slice m4a m4n m4c, .slice m4d m4m m4e, .bool m5.1.1, .slice m5a m5n m5c, .slice m5d m5m m5e, .bool m6.1.1, .slice m6a m6n m6c, .slice m6d m6m m6e] 62)).alloc (.cells #[.bool p1.1.1, .slice p1a p1n p1c, .slice p1d p1m p1e, .bool p2.1.1, .slice p2a p2n p2c, .slice p2d p2m p2e] 47)).heap.size ≤ nb1 ∧ Box6 wx nb1 (.bool m1.1.1) (.slice m1a m1n m1c) (.slice m1d m1m m1e) (.bool m3.1.1) (.slice m3a m3n m3c) (.slice m3d m3m m3e)) ∧ (((w.alloc (.cells #[.bool m1.1.1, .slice m1a m1n m1c, .slice m1d m1m m1e, .bool m2.1.1, .slice m2a m2n m2c, .slice m2d m2m m2e, .bool m3.1.1, .slice m3a m3n m3c, .slice m3d m3m m3e, .bool m4.1.1, .slice m4a m4n m4c, .slice m4d m4m m4e, .bool m5.1.1, .slice m5a m5n m5c, .slice m5d m5m m5e, .bool m6.1.1, .slice m6a m6n m6c, .slice m6d m6m m6e] 62)).alloc (.cells #[.bool p1.1.1, .slice p1a p1n p1c, .slice p1d p1m p1e, .bool p2.1.1, .slice p2a p2n p2c, .slice p2d p2m p2e] 47)).heap.size ≤ nb2 ∧ Box6 wx nb2 (.bool m2.1.1) (.slice m2a m2n m2c) (.slice m2d m2m m2e) (.bool m4.1.1) (.slice m4a m4n m4c) (.slice m4d m4m m4e)))
  case first =>
    go_region_held3 (fun w' => Turns [] ((w.alloc (.cells #[.bool m1.1.1, .slice m1a m1n m1c, .slice m1d m1m m1e, .bool m2.1.1, .slice m2a m2n m2c, .slice m2d m2m m2e, .bool m3.1.1, .slice m3a m3n m3c, .slice m3d m3m m3e, .bool m4.1.1, .slice m4a m4n m4c, .slice m4d m4m m4e, .bool m5.1.1, .slice m5a m5n m5c, .slice m5d m5m m5e, .bool m6.1.1, .slice m6a m6n m6c, .slice m6d m6m m6e] 62)).alloc (.cells #[.bool p1.1.1, .slice p1a p1n p1c, .slice p1d p1m p1e, .bool p2.1.1, .slice p2a p2n p2c, .slice p2d p2m p2e] 47)) w') (first | exact tC | exact mC2) (first | fail)
    all_goals
      go_wp2_with fail
      go_meet
      refine ⟨_, _, rfl, rfl, mC2, ⟨?_, ?_, ?_, ?_, ?_, ?_, ?_, ?_, ?_⟩, ⟨?_, ?_, ?_, ?_, ?_, ?_, ?_, ?_, ?_⟩⟩
      all_goals first | (simp [*]; done) | (simp; omega) | omega | (go_simp; done)
  case rest =>
  rename World => wd
  obtain ⟨nb1, nb2, rfl, rfl, hm1, ⟨hn1, hB1⟩, ⟨hn2, hB2⟩⟩ := hcut
  have HC' := HC
  clear HC
  have HC := fun (w' : World) (h : Turns [] wd w') => And.intro (HC' w' ((More.turns hm1 _).trans h)) (hB1.turn h (by simp))
  have HB' := HB
  clear HB HX
  have HB := fun (w' : World) (h : More wd w') => And.intro (HB' w' (More.trans hm1 h)) (And.intro ((hB1.keep h).turn (More.turns (More.refl _) []) (by simp)) (hB1.keep h).fr)
  have HC' := HC
  clear HC
  have HC := fun (w' : World) (h : Turns [] wd w') => And.intro (HC' w' ((More.turns (More.refl _) _).trans h)) (hB2.turn h (by simp))
  have HB' := HB
  clear HB
  have HB := fun (w' : World) (h : More wd w') => And.intro (HB' w' (More.trans (More.refl _) h)) (And.intro ((hB2.keep h).turn (More.turns (More.refl _) []) (by simp)) (hB2.keep h).fr)
  have HBr1 := HB _ (More.refl _)
  go_wp2_with fail
  go_cut [7, 8] (fun sl1 sl2 wx => ∃ (nb1 nb2 : Nat), sl1 = .pointer (some ⟨nb1, 0, none⟩) ∧ sl2 = .pointer (some ⟨nb2, 0, none⟩) ∧ More wd wx ∧ (wd.heap.size ≤ nb1 ∧ Box6 wx nb1 (.bool m1.1.1) (.slice m1a m1n m1c) (.slice m1d m1m m1e) (.bool m5.1.1) (.slice m5a m5n m5c) (.slice m5d m5m m5e)) ∧ (wd.heap.size ≤ nb2 ∧ Box6 wx nb2 (.bool m2.1.1) (.slice m2a m2n m2c) (.slice m2d m2m m2e) (.bool m6.1.1) (.slice m6a m6n m6c) (.slice m6d m6m m6e)))
  case first =>
    go_region_held3 (fun w' => Turns [] wd w') (first | exact tC | exact mC2) (first | fail)
    all_goals
      go_wp2_with fail
      go_meet
      refine ⟨_, _, rfl, rfl, mC2, ⟨?_, ?_, ?_, ?_, ?_, ?_, ?_, ?_, ?_⟩, ⟨?_, ?_, ?_, ?_, ?_, ?_, ?_, ?_, ?_⟩⟩
      all_goals first | (simp [*]; done) | (simp; omega) | omega | (go_simp; done)
  case rest =>
  rename World => we
  obtain ⟨nb3, nb4, rfl, rfl, hm2, ⟨hn3, hB3⟩, ⟨hn4, hB4⟩⟩ := hcut
  have HC' := HC
  clear HC
  have HC := fun (w' : World) (h : Turns [] we w') => And.intro (HC' w' ((More.turns hm2 _).trans h)) (hB3.turn h (by simp))
  have HB' := HB
  clear HB
  have HB := fun (w' : World) (h : More we w') => And.intro (HB' w' (More.trans hm2 h)) (And.intro ((hB3.keep h).turn (More.turns (More.refl _) []) (by simp)) (hB3.keep h).fr)
  have HC' := HC
  clear HC
  have HC := fun (w' : World) (h : Turns [] we w') => And.intro (HC' w' ((More.turns (More.refl _) _).trans h)) (hB4.turn h (by simp))
  have HB' := HB
  clear HB
  have HB := fun (w' : World) (h : More we w') => And.intro (HB' w' (More.trans (More.refl _) h)) (And.intro ((hB4.keep h).turn (More.turns (More.refl _) []) (by simp)) (hB4.keep h).fr)
  have HBr2 := HB _ (More.refl _)
  clear HBr1
  by_cases hlo : 0 < lo
  · by_cases hhi : hi < 0
    · go_wp2_with (first | (go_at_call 193; (with_reducible refine (impl_side [.bool m1.1.1, .slice m1a m1n m1c, .slice m1d m1m m1e, .bool m3.1.1, .slice m3a m3n m3c, .slice m3d m3m m3e] m1 m3 [.bool m2.1.1, .slice m2a m2n m2c, .slice m2d m2m m2e, .bool m4.1.1, .slice m4a m4n m4c, .slice m4d m4m m4e] m2 m4 [.bool p1.1.1, .slice p1a p1n p1c, .slice p1d p1m p1e, .bool p2.1.1, .slice p2a p2n p2c, .slice p2d p2m p2e] p1 p2 _ (pt_at (Ty.at_more Hm1.out mC) (Ty.at_more Hm3.out mC)) (show wPoint (m1, m3) ≤ 1048576 from by have h1 := HW0.out; unfold wCell at h1; unfold wPoint; dsimp only at h1 ⊢; omega) (pt_at (Ty.at_more Hm2.out mC) (Ty.at_more Hm4.out mC)) (show wPoint (m2, m4) ≤ 1048576 from by have h1 := HW0.out; unfold wCell at h1; unfold wPoint; dsimp only at h1 ⊢; omega) (Ty.at_more HV1.out mC) HW1.out Km1.out Km3.out Km2.out Km4.out Kp1.out Kp2.out).mono ?_); rintro e w3 ⟨rfl, hb3⟩; have HX3 : More we w3 := mC; have HB3 := HB _ HX3; have hz3 := More.size HX3; (try simp at hz3); have hb3 := hb3; rw [Cl.out]) | (go_at_call 193; (with_reducible refine (impl_side [.bool m1.1.1, .slice m1a m1n m1c, .slice m1d m1m m1e, .bool m5.1.1, .slice m5a m5n m5c, .slice m5d m5m m5e] m1 m5 [.bool m2.1.1, .slice m2a m2n m2c, .slice m2d m2m m2e, .bool m6.1.1, .slice m6a m6n m6c, .slice m6d m6m m6e] m2 m6 [.bool p1.1.1, .slice p1a p1n p1c, .slice p1d p1m p1e, .bool p2.1.1, .slice p2a p2n p2c, .slice p2d p2m p2e] p1 p2 _ (pt_at (Ty.at_more Hm1.out mC) (Ty.at_more Hm5.out mC)) (show wPoint (m1, m5) ≤ 1048576 from by have h1 := HW0.out; unfold wCell at h1; unfold wPoint; dsimp only at h1 ⊢; omega) (pt_at (Ty.at_more Hm2.out mC) (Ty.at_more Hm6.out mC)) (show wPoint (m2, m6) ≤ 1048576 from by have h1 := HW0.out; unfold wCell at h1; unfold wPoint; dsimp only at h1 ⊢; omega) (Ty.at_more HV1.out mC) HW1.out Km1.out Km5.out Km2.out Km6.out Kp1.out Kp2.out).mono ?_); rintro e w4 ⟨rfl, hb4⟩; have HX4 : More we w4 := mC; have HB4 := HB _ HX4; have hz4 := More.size HX4; (try simp at hz4); have hb4 := hb4; rw [Ch.out]))
      go_ret
      exact ⟨ret_bool (by (rw [decide_eq_true (show 0 < lo by omega), decide_eq_true (show hi < 0 by omega)]; rfl)), mC⟩
    · go_wp2_with (first | (go_at_call 193; (with_reducible refine (impl_side [.bool m1.1.1, .slice m1a m1n m1c, .slice m1d m1m m1e, .bool m3.1.1, .slice m3a m3n m3c, .slice m3d m3m m3e] m1 m3 [.bool m2.1.1, .slice m2a m2n m2c, .slice m2d m2m m2e, .bool m4.1.1, .slice m4a m4n m4c, .slice m4d m4m m4e] m2 m4 [.bool p1.1.1, .slice p1a p1n p1c, .slice p1d p1m p1e, .bool p2.1.1, .slice p2a p2n p2c, .slice p2d p2m p2e] p1 p2 _ (pt_at (Ty.at_more Hm1.out mC) (Ty.at_more Hm3.out mC)) (show wPoint (m1, m3) ≤ 1048576 from by have h1 := HW0.out; unfold wCell at h1; unfold wPoint; dsimp only at h1 ⊢; omega) (pt_at (Ty.at_more Hm2.out mC) (Ty.at_more Hm4.out mC)) (show wPoint (m2, m4) ≤ 1048576 from by have h1 := HW0.out; unfold wCell at h1; unfold wPoint; dsimp only at h1 ⊢; omega) (Ty.at_more HV1.out mC) HW1.out Km1.out Km3.out Km2.out Km4.out Kp1.out Kp2.out).mono ?_); rintro e w3 ⟨rfl, hb3⟩; have HX3 : More we w3 := mC; have HB3 := HB _ HX3; have hz3 := More.size HX3; (try simp at hz3); have hb3 := hb3; rw [Cl.out]) | (go_at_call 193; (with_reducible refine (impl_side [.bool m1.1.1, .slice m1a m1n m1c, .slice m1d m1m m1e, .bool m5.1.1, .slice m5a m5n m5c, .slice m5d m5m m5e] m1 m5 [.bool m2.1.1, .slice m2a m2n m2c, .slice m2d m2m m2e, .bool m6.1.1, .slice m6a m6n m6c, .slice m6d m6m m6e] m2 m6 [.bool p1.1.1, .slice p1a p1n p1c, .slice p1d p1m p1e, .bool p2.1.1, .slice p2a p2n p2c, .slice p2d p2m p2e] p1 p2 _ (pt_at (Ty.at_more Hm1.out mC) (Ty.at_more Hm5.out mC)) (show wPoint (m1, m5) ≤ 1048576 from by have h1 := HW0.out; unfold wCell at h1; unfold wPoint; dsimp only at h1 ⊢; omega) (pt_at (Ty.at_more Hm2.out mC) (Ty.at_more Hm6.out mC)) (show wPoint (m2, m6) ≤ 1048576 from by have h1 := HW0.out; unfold wCell at h1; unfold wPoint; dsimp only at h1 ⊢; omega) (Ty.at_more HV1.out mC) HW1.out Km1.out Km5.out Km2.out Km6.out Kp1.out Kp2.out).mono ?_); rintro e w4 ⟨rfl, hb4⟩; have HX4 : More we w4 := mC; have HB4 := HB _ HX4; have hz4 := More.size HX4; (try simp at hz4); have hb4 := hb4; rw [Ch.out]))
      go_ret
      exact ⟨ret_bool (by (rw [decide_eq_true (show 0 < lo by omega), decide_eq_false (show ¬ hi < 0 by omega)]; rfl)), mC⟩
  · go_wp2_with (first | (go_at_call 193; (with_reducible refine (impl_side [.bool m1.1.1, .slice m1a m1n m1c, .slice m1d m1m m1e, .bool m3.1.1, .slice m3a m3n m3c, .slice m3d m3m m3e] m1 m3 [.bool m2.1.1, .slice m2a m2n m2c, .slice m2d m2m m2e, .bool m4.1.1, .slice m4a m4n m4c, .slice m4d m4m m4e] m2 m4 [.bool p1.1.1, .slice p1a p1n p1c, .slice p1d p1m p1e, .bool p2.1.1, .slice p2a p2n p2c, .slice p2d p2m p2e] p1 p2 _ (pt_at (Ty.at_more Hm1.out mC) (Ty.at_more Hm3.out mC)) (show wPoint (m1, m3) ≤ 1048576 from by have h1 := HW0.out; unfold wCell at h1; unfold wPoint; dsimp only at h1 ⊢; omega) (pt_at (Ty.at_more Hm2.out mC) (Ty.at_more Hm4.out mC)) (show wPoint (m2, m4) ≤ 1048576 from by have h1 := HW0.out; unfold wCell at h1; unfold wPoint; dsimp only at h1 ⊢; omega) (Ty.at_more HV1.out mC) HW1.out Km1.out Km3.out Km2.out Km4.out Kp1.out Kp2.out).mono ?_); rintro e w3 ⟨rfl, hb3⟩; have HX3 : More we w3 := mC; have HB3 := HB _ HX3; have hz3 := More.size HX3; (try simp at hz3); have hb3 := hb3; rw [Cl.out]) | (go_at_call 193; (with_reducible refine (impl_side [.bool m1.1.1, .slice m1a m1n m1c, .slice m1d m1m m1e, .bool m5.1.1, .slice m5a m5n m5c, .slice m5d m5m m5e] m1 m5 [.bool m2.1.1, .slice m2a m2n m2c, .slice m2d m2m m2e, .bool m6.1.1, .slice m6a m6n m6c, .slice m6d m6m m6e] m2 m6 [.bool p1.1.1, .slice p1a p1n p1c, .slice p1d p1m p1e, .bool p2.1.1, .slice p2a p2n p2c, .slice p2d p2m p2e] p1 p2 _ (pt_at (Ty.at_more Hm1.out mC) (Ty.at_more Hm5.out mC)) (show wPoint (m1, m5) ≤ 1048576 from by have h1 := HW0.out; unfold wCell at h1; unfold wPoint; dsimp only at h1 ⊢; omega) (pt_at (Ty.at_more Hm2.out mC) (Ty.at_more Hm6.out mC)) (show wPoint (m2, m6) ≤ 1048576 from by have h1 := HW0.out; unfold wCell at h1; unfold wPoint; dsimp only at h1 ⊢; omega) (Ty.at_more HV1.out mC) HW1.out Km1.out Km5.out Km2.out Km6.out Kp1.out Kp2.out).mono ?_); rintro e w4 ⟨rfl, hb4⟩; have HX4 : More we w4 := mC; have HB4 := HB _ HX4; have hz4 := More.size HX4; (try simp at hz4); have hb4 := hb4; rw [Ch.out]))
    go_ret
    exact ⟨ret_bool (by rw [decide_eq_false (show ¬ 0 < lo by omega)]; simp), mC⟩
set_option maxRecDepth 8000 in
set_option maxHeartbeats 12800000 in
theorem impl_InCell (cs0 : List Value) (m1 m2 m3 m4 m5 m6 : QR) (cs1 : List Value) (p1 p2 : QR) (w : World) (hv0 : tCell.at w cs0 (m1, m2, m3, m4, m5, m6)) (hw0 : wCell (m1, m2, m3, m4, m5, m6) ≤ 1048576) (hv1 : tPoint.at w cs1 (p1, p2)) (hw1 : wPoint (p1, p2) ≤ 1048576) :
    Calls Tryz.prog 112 #[.agg cs0.toArray, .agg cs1.toArray] w fun e w' => e = .returned (.bool (inCellB (m1, m2, m3, m4, m5, m6) (p1, p2))) ∧ More w w' := by
  obtain ⟨k0, d0, rfl, f0, e0⟩ := at_prod hv0
  obtain ⟨k1, d1, rfl, f1, e1⟩ := at_prod e0
  obtain ⟨k2, d2, rfl, f2, e2⟩ := at_prod e1
  obtain ⟨k3, d3, rfl, f3, e3⟩ := at_prod e2
  obtain ⟨k4, d4, rfl, f4, e4⟩ := at_prod e3
  have f5 := e4; clear e4
  have f0 : tRat.at w _ m1 := f0
  obtain ⟨m1a, m1n, m1c, m1d, m1m, m1e, rfl⟩ := sh_Rat f0
  have Hm1 := Lib.hid f0; clear f0
  try clear f0
  have Wm1 : Hid (wRat m1 ≤ 1048576) := Lib.hid (by have h := hw0; unfold wCell at h; dsimp only at h; omega)
  have f1 : tRat.at w _ m2 := f1
  obtain ⟨m2a, m2n, m2c, m2d, m2m, m2e, rfl⟩ := sh_Rat f1
  have Hm2 := Lib.hid f1; clear f1
  try clear f1
  have Wm2 : Hid (wRat m2 ≤ 1048576) := Lib.hid (by have h := hw0; unfold wCell at h; dsimp only at h; omega)
  have f2 : tRat.at w _ m3 := f2
  obtain ⟨m3a, m3n, m3c, m3d, m3m, m3e, rfl⟩ := sh_Rat f2
  have Hm3 := Lib.hid f2; clear f2
  try clear f2
  have Wm3 : Hid (wRat m3 ≤ 1048576) := Lib.hid (by have h := hw0; unfold wCell at h; dsimp only at h; omega)
  have f3 : tRat.at w _ m4 := f3
  obtain ⟨m4a, m4n, m4c, m4d, m4m, m4e, rfl⟩ := sh_Rat f3
  have Hm4 := Lib.hid f3; clear f3
  try clear f3
  have Wm4 : Hid (wRat m4 ≤ 1048576) := Lib.hid (by have h := hw0; unfold wCell at h; dsimp only at h; omega)
  have f4 : tRat.at w _ m5 := f4
  obtain ⟨m5a, m5n, m5c, m5d, m5m, m5e, rfl⟩ := sh_Rat f4
  have Hm5 := Lib.hid f4; clear f4
  try clear f4
  have Wm5 : Hid (wRat m5 ≤ 1048576) := Lib.hid (by have h := hw0; unfold wCell at h; dsimp only at h; omega)
  have f5 : tRat.at w _ m6 := f5
  obtain ⟨m6a, m6n, m6c, m6d, m6m, m6e, rfl⟩ := sh_Rat f5
  have Hm6 := Lib.hid f5; clear f5
  try clear f5
  have Wm6 : Hid (wRat m6 ≤ 1048576) := Lib.hid (by have h := hw0; unfold wCell at h; dsimp only at h; omega)
  try clear e0 e1 e2 e3 e4 e5
  have HV0 : Hid (tCell.at w [.bool m1.1.1, .slice m1a m1n m1c, .slice m1d m1m m1e, .bool m2.1.1, .slice m2a m2n m2c, .slice m2d m2m m2e, .bool m3.1.1, .slice m3a m3n m3c, .slice m3d m3m m3e, .bool m4.1.1, .slice m4a m4n m4c, .slice m4d m4m m4e, .bool m5.1.1, .slice m5a m5n m5c, .slice m5d m5m m5e, .bool m6.1.1, .slice m6a m6n m6c, .slice m6d m6m m6e] (m1, m2, m3, m4, m5, m6)) := Lib.hid hv0; have HW0 := Lib.hid hw0; clear hv0 hw0
  obtain ⟨k0, d0, rfl, f0, e0⟩ := at_prod hv1
  have f1 := e0; clear e0
  have f0 : tRat.at w _ p1 := f0
  obtain ⟨p1a, p1n, p1c, p1d, p1m, p1e, rfl⟩ := sh_Rat f0
  have Hp1 := Lib.hid f0; clear f0
  try clear f0
  have Wp1 : Hid (wRat p1 ≤ 1048576) := Lib.hid (by have h := hw1; unfold wPoint at h; dsimp only at h; omega)
  have f1 : tRat.at w _ p2 := f1
  obtain ⟨p2a, p2n, p2c, p2d, p2m, p2e, rfl⟩ := sh_Rat f1
  have Hp2 := Lib.hid f1; clear f1
  try clear f1
  have Wp2 : Hid (wRat p2 ≤ 1048576) := Lib.hid (by have h := hw1; unfold wPoint at h; dsimp only at h; omega)
  try clear e0 e1
  have HV1 : Hid (tPoint.at w [.bool p1.1.1, .slice p1a p1n p1c, .slice p1d p1m p1e, .bool p2.1.1, .slice p2a p2n p2c, .slice p2d p2m p2e] (p1, p2)) := Lib.hid hv1; have HW1 := Lib.hid hw1; clear hv1 hw1
  show Calls Tryz.prog 112 #[.agg #[.bool m1.1.1, .slice m1a m1n m1c, .slice m1d m1m m1e, .bool m2.1.1, .slice m2a m2n m2c, .slice m2d m2m m2e, .bool m3.1.1, .slice m3a m3n m3c, .slice m3d m3m m3e, .bool m4.1.1, .slice m4a m4n m4c, .slice m4d m4m m4e, .bool m5.1.1, .slice m5a m5n m5c, .slice m5d m5m m5e, .bool m6.1.1, .slice m6a m6n m6c, .slice m6d m6m m6e], .agg #[.bool p1.1.1, .slice p1a p1n p1c, .slice p1d p1m p1e, .bool p2.1.1, .slice p2a p2n p2c, .slice p2d p2m p2e]] w _
  have EE : Hid (inCellB (m1, m2, m3, m4, m5, m6) (p1, p2) = (cellB (m1, m2, m3, m4, m5, m6) && ([((p1, p2) : QP)].all pointB && inC (m1, m2, m3, m4, m5, m6) (p1, p2)))) := Lib.hid (by unfold inCellB; simp only [List.all_cons, List.all_nil, Bool.and_true])
  rw [EE.out]
  rcases Bool.eq_false_or_eq_true (cellB (m1, m2, m3, m4, m5, m6)) with kc | kc
  rotate_left
  · have KC := Lib.hid kc; clear kc
    rw [KC.out]
    have HX := More.refl ((w.alloc (.cells #[.bool m1.1.1, .slice m1a m1n m1c, .slice m1d m1m m1e, .bool m2.1.1, .slice m2a m2n m2c, .slice m2d m2m m2e, .bool m3.1.1, .slice m3a m3n m3c, .slice m3d m3m m3e, .bool m4.1.1, .slice m4a m4n m4c, .slice m4d m4m m4e, .bool m5.1.1, .slice m5a m5n m5c, .slice m5d m5m m5e, .bool m6.1.1, .slice m6a m6n m6c, .slice m6d m6m m6e] 62)).alloc (.cells #[.bool p1.1.1, .slice p1a p1n p1c, .slice p1d p1m p1e, .bool p2.1.1, .slice p2a p2n p2c, .slice p2d p2m p2e] 47))
    have HB := fun (w' : World) (h : More ((w.alloc (.cells #[.bool m1.1.1, .slice m1a m1n m1c, .slice m1d m1m m1e, .bool m2.1.1, .slice m2a m2n m2c, .slice m2d m2m m2e, .bool m3.1.1, .slice m3a m3n m3c, .slice m3d m3m m3e, .bool m4.1.1, .slice m4a m4n m4c, .slice m4d m4m m4e, .bool m5.1.1, .slice m5a m5n m5c, .slice m5d m5m m5e, .bool m6.1.1, .slice m6a m6n m6c, .slice m6d m6m m6e] 62)).alloc (.cells #[.bool p1.1.1, .slice p1a p1n p1c, .slice p1d p1m p1e, .bool p2.1.1, .slice p2a p2n p2c, .slice p2d p2m p2e] 47)) w') => And.intro (bx18 (w.heap.size) (by simp) (More.un h)) (bx6 (w.heap.size + 1) (by simp) h)
    have HC := fun (w' : World) (h : Turns [] _ w') => HB w' (Turns.more h)
    have HRK : ∀ w', More ((w.alloc (.cells #[.bool m1.1.1, .slice m1a m1n m1c, .slice m1d m1m m1e, .bool m2.1.1, .slice m2a m2n m2c, .slice m2d m2m m2e, .bool m3.1.1, .slice m3a m3n m3c, .slice m3d m3m m3e, .bool m4.1.1, .slice m4a m4n m4c, .slice m4d m4m m4e, .bool m5.1.1, .slice m5a m5n m5c, .slice m5d m5m m5e, .bool m6.1.1, .slice m6a m6n m6c, .slice m6d m6m m6e] 62)).alloc (.cells #[.bool p1.1.1, .slice p1a p1n p1c, .slice p1d p1m p1e, .bool p2.1.1, .slice p2a p2n p2c, .slice p2d p2m p2e] 47)) w' → w'.rangeAt (w.heap.size) 0 [.bool m1.1.1, .slice m1a m1n m1c, .slice m1d m1m m1e, .bool m2.1.1, .slice m2a m2n m2c, .slice m2d m2m m2e, .bool m3.1.1, .slice m3a m3n m3c, .slice m3d m3m m3e, .bool m4.1.1, .slice m4a m4n m4c, .slice m4d m4m m4e, .bool m5.1.1, .slice m5a m5n m5c, .slice m5d m5m m5e, .bool m6.1.1, .slice m6a m6n m6c, .slice m6d m6m m6e] := fun w' h => box_range (by simp) (More.un h)
    go_enter Tryz.func112, Tryz.ntmps112
    go_wp2_with (first | (refine wpList_load_mid rfl _ _ rfl (w.heap.size) 0 rfl _ _ (HRK _ mC) Tryz.underlying62 rfl (by kernel_rfl) ?_) | (refine wpList_load_midG rfl _ _ rfl (w.heap.size) 0 rfl _ _ (HRK _ mC) Tryz.underlying62 rfl (by kernel_rfl) ?_) | (go_at_call 80; (with_reducible refine (impl_IsValidCell _ m1 m2 m3 m4 m5 m6 _ (Ty.at_more HV0.out mC) HW0.out).mono ?_); rintro e w1 ⟨rfl, hb1⟩; have HX1 := More.trans HX (show More _ w1 from mC); have HB1 := HB _ HX1; have hz1 := More.size HX1; (try simp at hz1); have hb1 := hb1; rw [KC.out]))
    go_ret
    exact ⟨rfl, mC⟩
  have KC := Lib.hid kc; clear kc
  rcases Bool.eq_false_or_eq_true ([((p1, p2) : QP)].all pointB) with ka | ka
  rotate_left
  · have KP := Lib.hid ka; clear ka
    rw [KC.out, KP.out]
    have HX := More.refl ((w.alloc (.cells #[.bool m1.1.1, .slice m1a m1n m1c, .slice m1d m1m m1e, .bool m2.1.1, .slice m2a m2n m2c, .slice m2d m2m m2e, .bool m3.1.1, .slice m3a m3n m3c, .slice m3d m3m m3e, .bool m4.1.1, .slice m4a m4n m4c, .slice m4d m4m m4e, .bool m5.1.1, .slice m5a m5n m5c, .slice m5d m5m m5e, .bool m6.1.1, .slice m6a m6n m6c, .slice m6d m6m m6e] 62)).alloc (.cells #[.bool p1.1.1, .slice p1a p1n p1c, .slice p1d p1m p1e, .bool p2.1.1, .slice p2a p2n p2c, .slice p2d p2m p2e] 47))
    have HB := fun (w' : World) (h : More ((w.alloc (.cells #[.bool m1.1.1, .slice m1a m1n m1c, .slice m1d m1m m1e, .bool m2.1.1, .slice m2a m2n m2c, .slice m2d m2m m2e, .bool m3.1.1, .slice m3a m3n m3c, .slice m3d m3m m3e, .bool m4.1.1, .slice m4a m4n m4c, .slice m4d m4m m4e, .bool m5.1.1, .slice m5a m5n m5c, .slice m5d m5m m5e, .bool m6.1.1, .slice m6a m6n m6c, .slice m6d m6m m6e] 62)).alloc (.cells #[.bool p1.1.1, .slice p1a p1n p1c, .slice p1d p1m p1e, .bool p2.1.1, .slice p2a p2n p2c, .slice p2d p2m p2e] 47)) w') => And.intro (bx18 (w.heap.size) (by simp) (More.un h)) (bx6 (w.heap.size + 1) (by simp) h)
    have HC := fun (w' : World) (h : Turns [] _ w') => HB w' (Turns.more h)
    have HRK : ∀ w', More ((w.alloc (.cells #[.bool m1.1.1, .slice m1a m1n m1c, .slice m1d m1m m1e, .bool m2.1.1, .slice m2a m2n m2c, .slice m2d m2m m2e, .bool m3.1.1, .slice m3a m3n m3c, .slice m3d m3m m3e, .bool m4.1.1, .slice m4a m4n m4c, .slice m4d m4m m4e, .bool m5.1.1, .slice m5a m5n m5c, .slice m5d m5m m5e, .bool m6.1.1, .slice m6a m6n m6c, .slice m6d m6m m6e] 62)).alloc (.cells #[.bool p1.1.1, .slice p1a p1n p1c, .slice p1d p1m p1e, .bool p2.1.1, .slice p2a p2n p2c, .slice p2d p2m p2e] 47)) w' → w'.rangeAt (w.heap.size) 0 [.bool m1.1.1, .slice m1a m1n m1c, .slice m1d m1m m1e, .bool m2.1.1, .slice m2a m2n m2c, .slice m2d m2m m2e, .bool m3.1.1, .slice m3a m3n m3c, .slice m3d m3m m3e, .bool m4.1.1, .slice m4a m4n m4c, .slice m4d m4m m4e, .bool m5.1.1, .slice m5a m5n m5c, .slice m5d m5m m5e, .bool m6.1.1, .slice m6a m6n m6c, .slice m6d m6m m6e] := fun w' h => box_range (by simp) (More.un h)
    go_enter Tryz.func112, Tryz.ntmps112
    go_wp2_with (first | (refine wpList_load_mid rfl _ _ rfl (w.heap.size) 0 rfl _ _ (HRK _ mC) Tryz.underlying62 rfl (by kernel_rfl) ?_) | (refine wpList_load_midG rfl _ _ rfl (w.heap.size) 0 rfl _ _ (HRK _ mC) Tryz.underlying62 rfl (by kernel_rfl) ?_) | (go_at_call 80; (with_reducible refine (impl_IsValidCell _ m1 m2 m3 m4 m5 m6 _ (Ty.at_more HV0.out mC) HW0.out).mono ?_); rintro e w1 ⟨rfl, hb1⟩; have HX1 := More.trans HX (show More _ w1 from mC); have HB1 := HB _ HX1; have hz1 := More.size HX1; (try simp at hz1); have hb1 := hb1; rw [KC.out]) | (go_at_call 87; refine (impl_arePoints _ [(p1, p2)] _ (lit_at (S := tPoint) (n := 1) [([.bool p1.1.1, .slice p1a p1n p1c, .slice p1d p1m p1e, .bool p2.1.1, .slice p2a p2n p2c, .slice p2d p2m p2e], (p1, p2))] (by simp) rfl rfl (by decide) (by rintro p hp; simp only [List.mem_cons, List.not_mem_nil, or_false] at hp; rcases hp with rfl <;> first | exact ⟨rfl, (Ty.at_more HV1.out mC)⟩) : (tSlice tPoint).at _ [_] [(p1, p2)]) (by refine ⟨by simp, ?_⟩; intro x hx; simp only [List.mem_cons, List.not_mem_nil, or_false] at hx; rcases hx with rfl <;> first | exact HW1.out)).mono ?_; rintro e w2 ⟨rfl, hb2⟩; have HX2 := More.trans HX (show More _ w2 from mC); have HB2 := HB _ HX2; have hz2 := More.size HX2; (try simp at hz2); have hb2 := hb2; rw [KP.out]))
    go_ret
    exact ⟨rfl, mC⟩
  have KP := Lib.hid ka
  simp only [List.all_cons, List.all_nil, Bool.and_true] at ka
  have Kp1 := Lib.hid (pointB_parts ka).1
  have Kp2 := Lib.hid (pointB_parts ka).2
  clear ka
  obtain ⟨j1, j2, j3, j4, j5, j6⟩ := cellB_parts KC.out
  have Km1 := Lib.hid j1; clear j1
  have Km2 := Lib.hid j2; clear j2
  have Km3 := Lib.hid j3; clear j3
  have Km4 := Lib.hid j4; clear j4
  have Km5 := Lib.hid j5; clear j5
  have Km6 := Lib.hid j6; clear j6
  rw [KC.out, KP.out, Bool.true_and, Bool.true_and]
  have HX := More.refl ((w.alloc (.cells #[.bool m1.1.1, .slice m1a m1n m1c, .slice m1d m1m m1e, .bool m2.1.1, .slice m2a m2n m2c, .slice m2d m2m m2e, .bool m3.1.1, .slice m3a m3n m3c, .slice m3d m3m m3e, .bool m4.1.1, .slice m4a m4n m4c, .slice m4d m4m m4e, .bool m5.1.1, .slice m5a m5n m5c, .slice m5d m5m m5e, .bool m6.1.1, .slice m6a m6n m6c, .slice m6d m6m m6e] 62)).alloc (.cells #[.bool p1.1.1, .slice p1a p1n p1c, .slice p1d p1m p1e, .bool p2.1.1, .slice p2a p2n p2c, .slice p2d p2m p2e] 47))
  have HB := fun (w' : World) (h : More ((w.alloc (.cells #[.bool m1.1.1, .slice m1a m1n m1c, .slice m1d m1m m1e, .bool m2.1.1, .slice m2a m2n m2c, .slice m2d m2m m2e, .bool m3.1.1, .slice m3a m3n m3c, .slice m3d m3m m3e, .bool m4.1.1, .slice m4a m4n m4c, .slice m4d m4m m4e, .bool m5.1.1, .slice m5a m5n m5c, .slice m5d m5m m5e, .bool m6.1.1, .slice m6a m6n m6c, .slice m6d m6m m6e] 62)).alloc (.cells #[.bool p1.1.1, .slice p1a p1n p1c, .slice p1d p1m p1e, .bool p2.1.1, .slice p2a p2n p2c, .slice p2d p2m p2e] 47)) w') => And.intro (bx18 (w.heap.size) (by simp) (More.un h)) (bx6 (w.heap.size + 1) (by simp) h)
  have HC := fun (w' : World) (h : Turns [] _ w') => HB w' (Turns.more h)
  have HRK : ∀ w', More ((w.alloc (.cells #[.bool m1.1.1, .slice m1a m1n m1c, .slice m1d m1m m1e, .bool m2.1.1, .slice m2a m2n m2c, .slice m2d m2m m2e, .bool m3.1.1, .slice m3a m3n m3c, .slice m3d m3m m3e, .bool m4.1.1, .slice m4a m4n m4c, .slice m4d m4m m4e, .bool m5.1.1, .slice m5a m5n m5c, .slice m5d m5m m5e, .bool m6.1.1, .slice m6a m6n m6c, .slice m6d m6m m6e] 62)).alloc (.cells #[.bool p1.1.1, .slice p1a p1n p1c, .slice p1d p1m p1e, .bool p2.1.1, .slice p2a p2n p2c, .slice p2d p2m p2e] 47)) w' → w'.rangeAt (w.heap.size) 0 [.bool m1.1.1, .slice m1a m1n m1c, .slice m1d m1m m1e, .bool m2.1.1, .slice m2a m2n m2c, .slice m2d m2m m2e, .bool m3.1.1, .slice m3a m3n m3c, .slice m3d m3m m3e, .bool m4.1.1, .slice m4a m4n m4c, .slice m4d m4m m4e, .bool m5.1.1, .slice m5a m5n m5c, .slice m5d m5m m5e, .bool m6.1.1, .slice m6a m6n m6c, .slice m6d m6m m6e] := fun w' h => box_range (by simp) (More.un h)
  go_enter Tryz.func112, Tryz.ntmps112
  go_wp2_with (first | (refine wpList_load_mid rfl _ _ rfl (w.heap.size) 0 rfl _ _ (HRK _ mC) Tryz.underlying62 rfl (by kernel_rfl) ?_) | (refine wpList_load_midG rfl _ _ rfl (w.heap.size) 0 rfl _ _ (HRK _ mC) Tryz.underlying62 rfl (by kernel_rfl) ?_) | (go_at_call 80; (with_reducible refine (impl_IsValidCell _ m1 m2 m3 m4 m5 m6 _ (Ty.at_more HV0.out mC) HW0.out).mono ?_); rintro e w1 ⟨rfl, hb1⟩; have HX1 := More.trans HX (show More _ w1 from mC); have HB1 := HB _ HX1; have hz1 := More.size HX1; (try simp at hz1); have hb1 := hb1; rw [KC.out]) | (go_at_call 87; refine (impl_arePoints _ [(p1, p2)] _ (lit_at (S := tPoint) (n := 1) [([.bool p1.1.1, .slice p1a p1n p1c, .slice p1d p1m p1e, .bool p2.1.1, .slice p2a p2n p2c, .slice p2d p2m p2e], (p1, p2))] (by simp) rfl rfl (by decide) (by rintro p hp; simp only [List.mem_cons, List.not_mem_nil, or_false] at hp; rcases hp with rfl <;> first | exact ⟨rfl, (Ty.at_more HV1.out mC)⟩) : (tSlice tPoint).at _ [_] [(p1, p2)]) (by refine ⟨by simp, ?_⟩; intro x hx; simp only [List.mem_cons, List.not_mem_nil, or_false] at hx; rcases hx with rfl <;> first | exact HW1.out)).mono ?_; rintro e w2 ⟨rfl, hb2⟩; have HX2 := More.trans HX (show More _ w2 from mC); have HB2 := HB _ HX2; have hz2 := More.size HX2; (try simp at hz2); have hb2 := hb2; rw [KP.out]) | (go_at_call 159; (with_reducible refine (impl_inCell _ m1 m2 m3 m4 m5 m6 _ p1 p2 _ (Ty.at_more HV0.out mC) HW0.out (Ty.at_more HV1.out mC) HW1.out Km1.out Km2.out Km3.out Km4.out Km5.out Km6.out Kp1.out Kp2.out).mono ?_); rintro e w3 ⟨rfl, hb3⟩; have HX3 := More.trans HX (show More _ w3 from mC); have HB3 := HB _ HX3; have hz3 := More.size HX3; (try simp at hz3); have hb3 := hb3))
  go_ret
  exact ⟨rfl, mC⟩
set_option maxRecDepth 8000 in
set_option maxHeartbeats 12800000 in
theorem spec_InCell (cs0 : List Value) (m1 m2 m3 m4 m5 m6 : QR) (cs1 : List Value) (p1 p2 : QR) (w : World) (hv0 : tCell.at w cs0 (m1, m2, m3, m4, m5, m6)) (hw0 : wCell (m1, m2, m3, m4, m5, m6) ≤ 1048576) (hv1 : tPoint.at w cs1 (p1, p2)) (hw1 : wPoint (p1, p2) ≤ 1048576) :
    Calls Tryz.prog 109 #[.agg cs0.toArray, .agg cs1.toArray] w fun e w' => e = .returned (.bool (inCellB (m1, m2, m3, m4, m5, m6) (p1, p2))) ∧ More w w' := by
  obtain ⟨k0, d0, rfl, f0, e0⟩ := at_prod hv0
  obtain ⟨k1, d1, rfl, f1, e1⟩ := at_prod e0
  obtain ⟨k2, d2, rfl, f2, e2⟩ := at_prod e1
  obtain ⟨k3, d3, rfl, f3, e3⟩ := at_prod e2
  obtain ⟨k4, d4, rfl, f4, e4⟩ := at_prod e3
  have f5 := e4; clear e4
  have f0 : tRat.at w _ m1 := f0
  obtain ⟨m1a, m1n, m1c, m1d, m1m, m1e, rfl⟩ := sh_Rat f0
  have Hm1 := Lib.hid f0; clear f0
  try clear f0
  have Wm1 : Hid (wRat m1 ≤ 1048576) := Lib.hid (by have h := hw0; unfold wCell at h; dsimp only at h; omega)
  have f1 : tRat.at w _ m2 := f1
  obtain ⟨m2a, m2n, m2c, m2d, m2m, m2e, rfl⟩ := sh_Rat f1
  have Hm2 := Lib.hid f1; clear f1
  try clear f1
  have Wm2 : Hid (wRat m2 ≤ 1048576) := Lib.hid (by have h := hw0; unfold wCell at h; dsimp only at h; omega)
  have f2 : tRat.at w _ m3 := f2
  obtain ⟨m3a, m3n, m3c, m3d, m3m, m3e, rfl⟩ := sh_Rat f2
  have Hm3 := Lib.hid f2; clear f2
  try clear f2
  have Wm3 : Hid (wRat m3 ≤ 1048576) := Lib.hid (by have h := hw0; unfold wCell at h; dsimp only at h; omega)
  have f3 : tRat.at w _ m4 := f3
  obtain ⟨m4a, m4n, m4c, m4d, m4m, m4e, rfl⟩ := sh_Rat f3
  have Hm4 := Lib.hid f3; clear f3
  try clear f3
  have Wm4 : Hid (wRat m4 ≤ 1048576) := Lib.hid (by have h := hw0; unfold wCell at h; dsimp only at h; omega)
  have f4 : tRat.at w _ m5 := f4
  obtain ⟨m5a, m5n, m5c, m5d, m5m, m5e, rfl⟩ := sh_Rat f4
  have Hm5 := Lib.hid f4; clear f4
  try clear f4
  have Wm5 : Hid (wRat m5 ≤ 1048576) := Lib.hid (by have h := hw0; unfold wCell at h; dsimp only at h; omega)
  have f5 : tRat.at w _ m6 := f5
  obtain ⟨m6a, m6n, m6c, m6d, m6m, m6e, rfl⟩ := sh_Rat f5
  have Hm6 := Lib.hid f5; clear f5
  try clear f5
  have Wm6 : Hid (wRat m6 ≤ 1048576) := Lib.hid (by have h := hw0; unfold wCell at h; dsimp only at h; omega)
  try clear e0 e1 e2 e3 e4 e5
  have HV0 : Hid (tCell.at w [.bool m1.1.1, .slice m1a m1n m1c, .slice m1d m1m m1e, .bool m2.1.1, .slice m2a m2n m2c, .slice m2d m2m m2e, .bool m3.1.1, .slice m3a m3n m3c, .slice m3d m3m m3e, .bool m4.1.1, .slice m4a m4n m4c, .slice m4d m4m m4e, .bool m5.1.1, .slice m5a m5n m5c, .slice m5d m5m m5e, .bool m6.1.1, .slice m6a m6n m6c, .slice m6d m6m m6e] (m1, m2, m3, m4, m5, m6)) := Lib.hid hv0; have HW0 := Lib.hid hw0; clear hv0 hw0
  obtain ⟨k0, d0, rfl, f0, e0⟩ := at_prod hv1
  have f1 := e0; clear e0
  have f0 : tRat.at w _ p1 := f0
  obtain ⟨p1a, p1n, p1c, p1d, p1m, p1e, rfl⟩ := sh_Rat f0
  have Hp1 := Lib.hid f0; clear f0
  try clear f0
  have Wp1 : Hid (wRat p1 ≤ 1048576) := Lib.hid (by have h := hw1; unfold wPoint at h; dsimp only at h; omega)
  have f1 : tRat.at w _ p2 := f1
  obtain ⟨p2a, p2n, p2c, p2d, p2m, p2e, rfl⟩ := sh_Rat f1
  have Hp2 := Lib.hid f1; clear f1
  try clear f1
  have Wp2 : Hid (wRat p2 ≤ 1048576) := Lib.hid (by have h := hw1; unfold wPoint at h; dsimp only at h; omega)
  try clear e0 e1
  have HV1 : Hid (tPoint.at w [.bool p1.1.1, .slice p1a p1n p1c, .slice p1d p1m p1e, .bool p2.1.1, .slice p2a p2n p2c, .slice p2d p2m p2e] (p1, p2)) := Lib.hid hv1; have HW1 := Lib.hid hw1; clear hv1 hw1
  show Calls Tryz.prog 109 #[.agg #[.bool m1.1.1, .slice m1a m1n m1c, .slice m1d m1m m1e, .bool m2.1.1, .slice m2a m2n m2c, .slice m2d m2m m2e, .bool m3.1.1, .slice m3a m3n m3c, .slice m3d m3m m3e, .bool m4.1.1, .slice m4a m4n m4c, .slice m4d m4m m4e, .bool m5.1.1, .slice m5a m5n m5c, .slice m5d m5m m5e, .bool m6.1.1, .slice m6a m6n m6c, .slice m6d m6m m6e], .agg #[.bool p1.1.1, .slice p1a p1n p1c, .slice p1d p1m p1e, .bool p2.1.1, .slice p2a p2n p2c, .slice p2d p2m p2e]] w _
  obtain ⟨c, hc⟩ : ∃ c, rCmp p1 m1 = c := ⟨_, rfl⟩
  have Cc := Lib.hid hc; clear hc
  obtain ⟨d, hd⟩ : ∃ c, rCmp p1 m2 = c := ⟨_, rfl⟩
  have Cd := Lib.hid hd; clear hd
  obtain ⟨lo, hlo⟩ : ∃ c, sideF (m1, m3) (m2, m4) (p1, p2) = c := ⟨_, rfl⟩
  have Cl := Lib.hid hlo; clear hlo
  obtain ⟨hi, hhi⟩ : ∃ c, sideF (m1, m5) (m2, m6) (p1, p2) = c := ⟨_, rfl⟩
  have Ch := Lib.hid hhi; clear hhi
  rcases Bool.eq_false_or_eq_true (cellB (m1, m2, m3, m4, m5, m6)) with kc | kc
  rotate_left
  · have KC := Lib.hid kc; clear kc
    have HX := More.refl ((w.alloc (.cells #[.bool m1.1.1, .slice m1a m1n m1c, .slice m1d m1m m1e, .bool m2.1.1, .slice m2a m2n m2c, .slice m2d m2m m2e, .bool m3.1.1, .slice m3a m3n m3c, .slice m3d m3m m3e, .bool m4.1.1, .slice m4a m4n m4c, .slice m4d m4m m4e, .bool m5.1.1, .slice m5a m5n m5c, .slice m5d m5m m5e, .bool m6.1.1, .slice m6a m6n m6c, .slice m6d m6m m6e] 62)).alloc (.cells #[.bool p1.1.1, .slice p1a p1n p1c, .slice p1d p1m p1e, .bool p2.1.1, .slice p2a p2n p2c, .slice p2d p2m p2e] 47))
    have HB := fun (w' : World) (h : More ((w.alloc (.cells #[.bool m1.1.1, .slice m1a m1n m1c, .slice m1d m1m m1e, .bool m2.1.1, .slice m2a m2n m2c, .slice m2d m2m m2e, .bool m3.1.1, .slice m3a m3n m3c, .slice m3d m3m m3e, .bool m4.1.1, .slice m4a m4n m4c, .slice m4d m4m m4e, .bool m5.1.1, .slice m5a m5n m5c, .slice m5d m5m m5e, .bool m6.1.1, .slice m6a m6n m6c, .slice m6d m6m m6e] 62)).alloc (.cells #[.bool p1.1.1, .slice p1a p1n p1c, .slice p1d p1m p1e, .bool p2.1.1, .slice p2a p2n p2c, .slice p2d p2m p2e] 47)) w') => And.intro (bx18 (w.heap.size) (by simp) (More.un h)) (bx6 (w.heap.size + 1) (by simp) h)
    have HC := fun (w' : World) (h : Turns [] _ w') => HB w' (Turns.more h)
    have HRK : ∀ w', More ((w.alloc (.cells #[.bool m1.1.1, .slice m1a m1n m1c, .slice m1d m1m m1e, .bool m2.1.1, .slice m2a m2n m2c, .slice m2d m2m m2e, .bool m3.1.1, .slice m3a m3n m3c, .slice m3d m3m m3e, .bool m4.1.1, .slice m4a m4n m4c, .slice m4d m4m m4e, .bool m5.1.1, .slice m5a m5n m5c, .slice m5d m5m m5e, .bool m6.1.1, .slice m6a m6n m6c, .slice m6d m6m m6e] 62)).alloc (.cells #[.bool p1.1.1, .slice p1a p1n p1c, .slice p1d p1m p1e, .bool p2.1.1, .slice p2a p2n p2c, .slice p2d p2m p2e] 47)) w' → w'.rangeAt (w.heap.size) 0 [.bool m1.1.1, .slice m1a m1n m1c, .slice m1d m1m m1e, .bool m2.1.1, .slice m2a m2n m2c, .slice m2d m2m m2e, .bool m3.1.1, .slice m3a m3n m3c, .slice m3d m3m m3e, .bool m4.1.1, .slice m4a m4n m4c, .slice m4d m4m m4e, .bool m5.1.1, .slice m5a m5n m5c, .slice m5d m5m m5e, .bool m6.1.1, .slice m6a m6n m6c, .slice m6d m6m m6e] := fun w' h => box_range (by simp) (More.un h)
    go_enter Tryz.func109, Tryz.ntmps109
    go_wp2_with (first | (refine wpList_load_mid rfl _ _ rfl (w.heap.size) 0 rfl _ _ (HRK _ mC) Tryz.underlying62 rfl (by kernel_rfl) ?_) | (refine wpList_load_midG rfl _ _ rfl (w.heap.size) 0 rfl _ _ (HRK _ mC) Tryz.underlying62 rfl (by kernel_rfl) ?_) | (go_at_call 79; (with_reducible refine (spec_IsValidCell _ m1 m2 m3 m4 m5 m6 _ (Ty.at_more HV0.out mC) HW0.out).mono ?_); rintro e w1 ⟨rfl, hb1⟩; have HX1 := More.trans HX (show More _ w1 from mC); have HB1 := HB _ HX1; have hz1 := More.size HX1; (try simp at hz1); have hb1 := hb1; rw [KC.out]))
    go_ret
    exact ⟨ret_bool (by unfold inCellB; rw [KC.out]; rfl), mC⟩
  have KC := Lib.hid kc; clear kc
  rcases Bool.eq_false_or_eq_true (pointB (p1, p2)) with ka | ka
  rotate_left
  · have KP := Lib.hid ka; clear ka
    have HX := More.refl ((w.alloc (.cells #[.bool m1.1.1, .slice m1a m1n m1c, .slice m1d m1m m1e, .bool m2.1.1, .slice m2a m2n m2c, .slice m2d m2m m2e, .bool m3.1.1, .slice m3a m3n m3c, .slice m3d m3m m3e, .bool m4.1.1, .slice m4a m4n m4c, .slice m4d m4m m4e, .bool m5.1.1, .slice m5a m5n m5c, .slice m5d m5m m5e, .bool m6.1.1, .slice m6a m6n m6c, .slice m6d m6m m6e] 62)).alloc (.cells #[.bool p1.1.1, .slice p1a p1n p1c, .slice p1d p1m p1e, .bool p2.1.1, .slice p2a p2n p2c, .slice p2d p2m p2e] 47))
    have HB := fun (w' : World) (h : More ((w.alloc (.cells #[.bool m1.1.1, .slice m1a m1n m1c, .slice m1d m1m m1e, .bool m2.1.1, .slice m2a m2n m2c, .slice m2d m2m m2e, .bool m3.1.1, .slice m3a m3n m3c, .slice m3d m3m m3e, .bool m4.1.1, .slice m4a m4n m4c, .slice m4d m4m m4e, .bool m5.1.1, .slice m5a m5n m5c, .slice m5d m5m m5e, .bool m6.1.1, .slice m6a m6n m6c, .slice m6d m6m m6e] 62)).alloc (.cells #[.bool p1.1.1, .slice p1a p1n p1c, .slice p1d p1m p1e, .bool p2.1.1, .slice p2a p2n p2c, .slice p2d p2m p2e] 47)) w') => And.intro (bx18 (w.heap.size) (by simp) (More.un h)) (bx6 (w.heap.size + 1) (by simp) h)
    have HC := fun (w' : World) (h : Turns [] _ w') => HB w' (Turns.more h)
    have HRK : ∀ w', More ((w.alloc (.cells #[.bool m1.1.1, .slice m1a m1n m1c, .slice m1d m1m m1e, .bool m2.1.1, .slice m2a m2n m2c, .slice m2d m2m m2e, .bool m3.1.1, .slice m3a m3n m3c, .slice m3d m3m m3e, .bool m4.1.1, .slice m4a m4n m4c, .slice m4d m4m m4e, .bool m5.1.1, .slice m5a m5n m5c, .slice m5d m5m m5e, .bool m6.1.1, .slice m6a m6n m6c, .slice m6d m6m m6e] 62)).alloc (.cells #[.bool p1.1.1, .slice p1a p1n p1c, .slice p1d p1m p1e, .bool p2.1.1, .slice p2a p2n p2c, .slice p2d p2m p2e] 47)) w' → w'.rangeAt (w.heap.size) 0 [.bool m1.1.1, .slice m1a m1n m1c, .slice m1d m1m m1e, .bool m2.1.1, .slice m2a m2n m2c, .slice m2d m2m m2e, .bool m3.1.1, .slice m3a m3n m3c, .slice m3d m3m m3e, .bool m4.1.1, .slice m4a m4n m4c, .slice m4d m4m m4e, .bool m5.1.1, .slice m5a m5n m5c, .slice m5d m5m m5e, .bool m6.1.1, .slice m6a m6n m6c, .slice m6d m6m m6e] := fun w' h => box_range (by simp) (More.un h)
    go_enter Tryz.func109, Tryz.ntmps109
    go_wp2_with (first | (refine wpList_load_mid rfl _ _ rfl (w.heap.size) 0 rfl _ _ (HRK _ mC) Tryz.underlying62 rfl (by kernel_rfl) ?_) | (refine wpList_load_midG rfl _ _ rfl (w.heap.size) 0 rfl _ _ (HRK _ mC) Tryz.underlying62 rfl (by kernel_rfl) ?_) | (go_at_call 79; (with_reducible refine (spec_IsValidCell _ m1 m2 m3 m4 m5 m6 _ (Ty.at_more HV0.out mC) HW0.out).mono ?_); rintro e w1 ⟨rfl, hb1⟩; have HX1 := More.trans HX (show More _ w1 from mC); have HB1 := HB _ HX1; have hz1 := More.size HX1; (try simp at hz1); have hb1 := hb1; rw [KC.out]) | (go_at_call 136; (with_reducible refine (spec_IsValidPoint [.bool p1.1.1, .slice p1a p1n p1c, .slice p1d p1m p1e, .bool p2.1.1, .slice p2a p2n p2c, .slice p2d p2m p2e] p1 p2 _ (Ty.at_more HV1.out mC) HW1.out).mono ?_); rintro e w2 ⟨rfl, hb2⟩; have HX2 := More.trans HX (show More _ w2 from mC); have HB2 := HB _ HX2; have hz2 := More.size HX2; (try simp at hz2); have hb2 := hb2; rw [KP.out]))
    go_ret
    exact ⟨ret_bool (by unfold inCellB; rw [KC.out, KP.out]; rfl), mC⟩
  have KP := Lib.hid ka; clear ka
  by_cases hc : c ≤ 0
  · have KI := Lib.hid (inC_no1 (k := (m1, m2, m3, m4, m5, m6)) (p := (p1, p2)) Cc.out hc)
    have HX := More.refl ((w.alloc (.cells #[.bool m1.1.1, .slice m1a m1n m1c, .slice m1d m1m m1e, .bool m2.1.1, .slice m2a m2n m2c, .slice m2d m2m m2e, .bool m3.1.1, .slice m3a m3n m3c, .slice m3d m3m m3e, .bool m4.1.1, .slice m4a m4n m4c, .slice m4d m4m m4e, .bool m5.1.1, .slice m5a m5n m5c, .slice m5d m5m m5e, .bool m6.1.1, .slice m6a m6n m6c, .slice m6d m6m m6e] 62)).alloc (.cells #[.bool p1.1.1, .slice p1a p1n p1c, .slice p1d p1m p1e, .bool p2.1.1, .slice p2a p2n p2c, .slice p2d p2m p2e] 47))
    have HB := fun (w' : World) (h : More ((w.alloc (.cells #[.bool m1.1.1, .slice m1a m1n m1c, .slice m1d m1m m1e, .bool m2.1.1, .slice m2a m2n m2c, .slice m2d m2m m2e, .bool m3.1.1, .slice m3a m3n m3c, .slice m3d m3m m3e, .bool m4.1.1, .slice m4a m4n m4c, .slice m4d m4m m4e, .bool m5.1.1, .slice m5a m5n m5c, .slice m5d m5m m5e, .bool m6.1.1, .slice m6a m6n m6c, .slice m6d m6m m6e] 62)).alloc (.cells #[.bool p1.1.1, .slice p1a p1n p1c, .slice p1d p1m p1e, .bool p2.1.1, .slice p2a p2n p2c, .slice p2d p2m p2e] 47)) w') => And.intro (bx18 (w.heap.size) (by simp) (More.un h)) (bx6 (w.heap.size + 1) (by simp) h)
    have HC := fun (w' : World) (h : Turns [] _ w') => HB w' (Turns.more h)
    have HRK : ∀ w', More ((w.alloc (.cells #[.bool m1.1.1, .slice m1a m1n m1c, .slice m1d m1m m1e, .bool m2.1.1, .slice m2a m2n m2c, .slice m2d m2m m2e, .bool m3.1.1, .slice m3a m3n m3c, .slice m3d m3m m3e, .bool m4.1.1, .slice m4a m4n m4c, .slice m4d m4m m4e, .bool m5.1.1, .slice m5a m5n m5c, .slice m5d m5m m5e, .bool m6.1.1, .slice m6a m6n m6c, .slice m6d m6m m6e] 62)).alloc (.cells #[.bool p1.1.1, .slice p1a p1n p1c, .slice p1d p1m p1e, .bool p2.1.1, .slice p2a p2n p2c, .slice p2d p2m p2e] 47)) w' → w'.rangeAt (w.heap.size) 0 [.bool m1.1.1, .slice m1a m1n m1c, .slice m1d m1m m1e, .bool m2.1.1, .slice m2a m2n m2c, .slice m2d m2m m2e, .bool m3.1.1, .slice m3a m3n m3c, .slice m3d m3m m3e, .bool m4.1.1, .slice m4a m4n m4c, .slice m4d m4m m4e, .bool m5.1.1, .slice m5a m5n m5c, .slice m5d m5m m5e, .bool m6.1.1, .slice m6a m6n m6c, .slice m6d m6m m6e] := fun w' h => box_range (by simp) (More.un h)
    go_enter Tryz.func109, Tryz.ntmps109
    go_wp2_with (first | (refine wpList_load_mid rfl _ _ rfl (w.heap.size) 0 rfl _ _ (HRK _ mC) Tryz.underlying62 rfl (by kernel_rfl) ?_) | (refine wpList_load_midG rfl _ _ rfl (w.heap.size) 0 rfl _ _ (HRK _ mC) Tryz.underlying62 rfl (by kernel_rfl) ?_) | (go_at_call 79; (with_reducible refine (spec_IsValidCell _ m1 m2 m3 m4 m5 m6 _ (Ty.at_more HV0.out mC) HW0.out).mono ?_); rintro e w1 ⟨rfl, hb1⟩; have HX1 := More.trans HX (show More _ w1 from mC); have HB1 := HB _ HX1; have hz1 := More.size HX1; (try simp at hz1); have hb1 := hb1; rw [KC.out]) | (go_at_call 136; (with_reducible refine (spec_IsValidPoint [.bool p1.1.1, .slice p1a p1n p1c, .slice p1d p1m p1e, .bool p2.1.1, .slice p2a p2n p2c, .slice p2d p2m p2e] p1 p2 _ (Ty.at_more HV1.out mC) HW1.out).mono ?_); rintro e w2 ⟨rfl, hb2⟩; have HX2 := More.trans HX (show More _ w2 from mC); have HB2 := HB _ HX2; have hz2 := More.size HX2; (try simp at hz2); have hb2 := hb2; rw [KP.out]) | (go_at_call 46; (with_reducible refine (spec_RatCmpX p1 p1.1.1 (.slice p1a p1n p1c) (.slice p1d p1m p1e) m1 m1.1.1 (.slice m1a m1n m1c) (.slice m1d m1m m1e) _ (Ty.at_more Hp1.out mC) Wp1.out (Ty.at_more Hm1.out mC) Wm1.out).mono ?_); rintro e w3 ⟨rfl, hb3⟩; have HX3 := More.trans HX (show More _ w3 from mC); have HB3 := HB _ HX3; have hz3 := More.size HX3; (try simp at hz3); have hb3 := hb3; rw [Cc.out]) | (go_at_call 46; (with_reducible refine (spec_RatCmpX p1 p1.1.1 (.slice p1a p1n p1c) (.slice p1d p1m p1e) m2 m2.1.1 (.slice m2a m2n m2c) (.slice m2d m2m m2e) _ (Ty.at_more Hp1.out mC) Wp1.out (Ty.at_more Hm2.out mC) Wm2.out).mono ?_); rintro e w4 ⟨rfl, hb4⟩; have HX4 := More.trans HX (show More _ w4 from mC); have HB4 := HB _ HX4; have hz4 := More.size HX4; (try simp at hz4); have hb4 := hb4; rw [Cd.out]))
    go_ret
    exact ⟨ret_bool (by unfold inCellB; rw [KC.out, KP.out, KI.out]; rfl), mC⟩
  by_cases hd : 0 ≤ d
  · have KI := Lib.hid (inC_no2 (k := (m1, m2, m3, m4, m5, m6)) (p := (p1, p2)) Cd.out hd)
    have HX := More.refl ((w.alloc (.cells #[.bool m1.1.1, .slice m1a m1n m1c, .slice m1d m1m m1e, .bool m2.1.1, .slice m2a m2n m2c, .slice m2d m2m m2e, .bool m3.1.1, .slice m3a m3n m3c, .slice m3d m3m m3e, .bool m4.1.1, .slice m4a m4n m4c, .slice m4d m4m m4e, .bool m5.1.1, .slice m5a m5n m5c, .slice m5d m5m m5e, .bool m6.1.1, .slice m6a m6n m6c, .slice m6d m6m m6e] 62)).alloc (.cells #[.bool p1.1.1, .slice p1a p1n p1c, .slice p1d p1m p1e, .bool p2.1.1, .slice p2a p2n p2c, .slice p2d p2m p2e] 47))
    have HB := fun (w' : World) (h : More ((w.alloc (.cells #[.bool m1.1.1, .slice m1a m1n m1c, .slice m1d m1m m1e, .bool m2.1.1, .slice m2a m2n m2c, .slice m2d m2m m2e, .bool m3.1.1, .slice m3a m3n m3c, .slice m3d m3m m3e, .bool m4.1.1, .slice m4a m4n m4c, .slice m4d m4m m4e, .bool m5.1.1, .slice m5a m5n m5c, .slice m5d m5m m5e, .bool m6.1.1, .slice m6a m6n m6c, .slice m6d m6m m6e] 62)).alloc (.cells #[.bool p1.1.1, .slice p1a p1n p1c, .slice p1d p1m p1e, .bool p2.1.1, .slice p2a p2n p2c, .slice p2d p2m p2e] 47)) w') => And.intro (bx18 (w.heap.size) (by simp) (More.un h)) (bx6 (w.heap.size + 1) (by simp) h)
    have HC := fun (w' : World) (h : Turns [] _ w') => HB w' (Turns.more h)
    have HRK : ∀ w', More ((w.alloc (.cells #[.bool m1.1.1, .slice m1a m1n m1c, .slice m1d m1m m1e, .bool m2.1.1, .slice m2a m2n m2c, .slice m2d m2m m2e, .bool m3.1.1, .slice m3a m3n m3c, .slice m3d m3m m3e, .bool m4.1.1, .slice m4a m4n m4c, .slice m4d m4m m4e, .bool m5.1.1, .slice m5a m5n m5c, .slice m5d m5m m5e, .bool m6.1.1, .slice m6a m6n m6c, .slice m6d m6m m6e] 62)).alloc (.cells #[.bool p1.1.1, .slice p1a p1n p1c, .slice p1d p1m p1e, .bool p2.1.1, .slice p2a p2n p2c, .slice p2d p2m p2e] 47)) w' → w'.rangeAt (w.heap.size) 0 [.bool m1.1.1, .slice m1a m1n m1c, .slice m1d m1m m1e, .bool m2.1.1, .slice m2a m2n m2c, .slice m2d m2m m2e, .bool m3.1.1, .slice m3a m3n m3c, .slice m3d m3m m3e, .bool m4.1.1, .slice m4a m4n m4c, .slice m4d m4m m4e, .bool m5.1.1, .slice m5a m5n m5c, .slice m5d m5m m5e, .bool m6.1.1, .slice m6a m6n m6c, .slice m6d m6m m6e] := fun w' h => box_range (by simp) (More.un h)
    go_enter Tryz.func109, Tryz.ntmps109
    go_wp2_with (first | (refine wpList_load_mid rfl _ _ rfl (w.heap.size) 0 rfl _ _ (HRK _ mC) Tryz.underlying62 rfl (by kernel_rfl) ?_) | (refine wpList_load_midG rfl _ _ rfl (w.heap.size) 0 rfl _ _ (HRK _ mC) Tryz.underlying62 rfl (by kernel_rfl) ?_) | (go_at_call 79; (with_reducible refine (spec_IsValidCell _ m1 m2 m3 m4 m5 m6 _ (Ty.at_more HV0.out mC) HW0.out).mono ?_); rintro e w1 ⟨rfl, hb1⟩; have HX1 := More.trans HX (show More _ w1 from mC); have HB1 := HB _ HX1; have hz1 := More.size HX1; (try simp at hz1); have hb1 := hb1; rw [KC.out]) | (go_at_call 136; (with_reducible refine (spec_IsValidPoint [.bool p1.1.1, .slice p1a p1n p1c, .slice p1d p1m p1e, .bool p2.1.1, .slice p2a p2n p2c, .slice p2d p2m p2e] p1 p2 _ (Ty.at_more HV1.out mC) HW1.out).mono ?_); rintro e w2 ⟨rfl, hb2⟩; have HX2 := More.trans HX (show More _ w2 from mC); have HB2 := HB _ HX2; have hz2 := More.size HX2; (try simp at hz2); have hb2 := hb2; rw [KP.out]) | (go_at_call 46; (with_reducible refine (spec_RatCmpX p1 p1.1.1 (.slice p1a p1n p1c) (.slice p1d p1m p1e) m1 m1.1.1 (.slice m1a m1n m1c) (.slice m1d m1m m1e) _ (Ty.at_more Hp1.out mC) Wp1.out (Ty.at_more Hm1.out mC) Wm1.out).mono ?_); rintro e w3 ⟨rfl, hb3⟩; have HX3 := More.trans HX (show More _ w3 from mC); have HB3 := HB _ HX3; have hz3 := More.size HX3; (try simp at hz3); have hb3 := hb3; rw [Cc.out]) | (go_at_call 46; (with_reducible refine (spec_RatCmpX p1 p1.1.1 (.slice p1a p1n p1c) (.slice p1d p1m p1e) m2 m2.1.1 (.slice m2a m2n m2c) (.slice m2d m2m m2e) _ (Ty.at_more Hp1.out mC) Wp1.out (Ty.at_more Hm2.out mC) Wm2.out).mono ?_); rintro e w4 ⟨rfl, hb4⟩; have HX4 := More.trans HX (show More _ w4 from mC); have HB4 := HB _ HX4; have hz4 := More.size HX4; (try simp at hz4); have hb4 := hb4; rw [Cd.out]))
    go_ret
    exact ⟨ret_bool (by unfold inCellB; rw [KC.out, KP.out, KI.out]; rfl), mC⟩
  have KI := Lib.hid (inC_yes (k := (m1, m2, m3, m4, m5, m6)) (p := (p1, p2)) Cc.out Cd.out Cl.out Ch.out (by omega) (by omega))
  by_cases hlo : 0 < lo
  · by_cases hhi : hi < 0
    · skip
      have HX := More.refl ((w.alloc (.cells #[.bool m1.1.1, .slice m1a m1n m1c, .slice m1d m1m m1e, .bool m2.1.1, .slice m2a m2n m2c, .slice m2d m2m m2e, .bool m3.1.1, .slice m3a m3n m3c, .slice m3d m3m m3e, .bool m4.1.1, .slice m4a m4n m4c, .slice m4d m4m m4e, .bool m5.1.1, .slice m5a m5n m5c, .slice m5d m5m m5e, .bool m6.1.1, .slice m6a m6n m6c, .slice m6d m6m m6e] 62)).alloc (.cells #[.bool p1.1.1, .slice p1a p1n p1c, .slice p1d p1m p1e, .bool p2.1.1, .slice p2a p2n p2c, .slice p2d p2m p2e] 47))
      have HB := fun (w' : World) (h : More ((w.alloc (.cells #[.bool m1.1.1, .slice m1a m1n m1c, .slice m1d m1m m1e, .bool m2.1.1, .slice m2a m2n m2c, .slice m2d m2m m2e, .bool m3.1.1, .slice m3a m3n m3c, .slice m3d m3m m3e, .bool m4.1.1, .slice m4a m4n m4c, .slice m4d m4m m4e, .bool m5.1.1, .slice m5a m5n m5c, .slice m5d m5m m5e, .bool m6.1.1, .slice m6a m6n m6c, .slice m6d m6m m6e] 62)).alloc (.cells #[.bool p1.1.1, .slice p1a p1n p1c, .slice p1d p1m p1e, .bool p2.1.1, .slice p2a p2n p2c, .slice p2d p2m p2e] 47)) w') => And.intro (bx18 (w.heap.size) (by simp) (More.un h)) (bx6 (w.heap.size + 1) (by simp) h)
      have HC := fun (w' : World) (h : Turns [] _ w') => HB w' (Turns.more h)
      have HRK : ∀ w', More ((w.alloc (.cells #[.bool m1.1.1, .slice m1a m1n m1c, .slice m1d m1m m1e, .bool m2.1.1, .slice m2a m2n m2c, .slice m2d m2m m2e, .bool m3.1.1, .slice m3a m3n m3c, .slice m3d m3m m3e, .bool m4.1.1, .slice m4a m4n m4c, .slice m4d m4m m4e, .bool m5.1.1, .slice m5a m5n m5c, .slice m5d m5m m5e, .bool m6.1.1, .slice m6a m6n m6c, .slice m6d m6m m6e] 62)).alloc (.cells #[.bool p1.1.1, .slice p1a p1n p1c, .slice p1d p1m p1e, .bool p2.1.1, .slice p2a p2n p2c, .slice p2d p2m p2e] 47)) w' → w'.rangeAt (w.heap.size) 0 [.bool m1.1.1, .slice m1a m1n m1c, .slice m1d m1m m1e, .bool m2.1.1, .slice m2a m2n m2c, .slice m2d m2m m2e, .bool m3.1.1, .slice m3a m3n m3c, .slice m3d m3m m3e, .bool m4.1.1, .slice m4a m4n m4c, .slice m4d m4m m4e, .bool m5.1.1, .slice m5a m5n m5c, .slice m5d m5m m5e, .bool m6.1.1, .slice m6a m6n m6c, .slice m6d m6m m6e] := fun w' h => box_range (by simp) (More.un h)
      go_enter Tryz.func109, Tryz.ntmps109
      go_wp2_with (first | (refine wpList_load_mid rfl _ _ rfl (w.heap.size) 0 rfl _ _ (HRK _ mC) Tryz.underlying62 rfl (by kernel_rfl) ?_) | (refine wpList_load_midG rfl _ _ rfl (w.heap.size) 0 rfl _ _ (HRK _ mC) Tryz.underlying62 rfl (by kernel_rfl) ?_) | (go_at_call 79; (with_reducible refine (spec_IsValidCell _ m1 m2 m3 m4 m5 m6 _ (Ty.at_more HV0.out mC) HW0.out).mono ?_); rintro e w1 ⟨rfl, hb1⟩; have HX1 := More.trans HX (show More _ w1 from mC); have HB1 := HB _ HX1; have hz1 := More.size HX1; (try simp at hz1); have hb1 := hb1; rw [KC.out]) | (go_at_call 136; (with_reducible refine (spec_IsValidPoint [.bool p1.1.1, .slice p1a p1n p1c, .slice p1d p1m p1e, .bool p2.1.1, .slice p2a p2n p2c, .slice p2d p2m p2e] p1 p2 _ (Ty.at_more HV1.out mC) HW1.out).mono ?_); rintro e w2 ⟨rfl, hb2⟩; have HX2 := More.trans HX (show More _ w2 from mC); have HB2 := HB _ HX2; have hz2 := More.size HX2; (try simp at hz2); have hb2 := hb2; rw [KP.out]) | (go_at_call 46; (with_reducible refine (spec_RatCmpX p1 p1.1.1 (.slice p1a p1n p1c) (.slice p1d p1m p1e) m1 m1.1.1 (.slice m1a m1n m1c) (.slice m1d m1m m1e) _ (Ty.at_more Hp1.out mC) Wp1.out (Ty.at_more Hm1.out mC) Wm1.out).mono ?_); rintro e w3 ⟨rfl, hb3⟩; have HX3 := More.trans HX (show More _ w3 from mC); have HB3 := HB _ HX3; have hz3 := More.size HX3; (try simp at hz3); have hb3 := hb3; rw [Cc.out]) | (go_at_call 46; (with_reducible refine (spec_RatCmpX p1 p1.1.1 (.slice p1a p1n p1c) (.slice p1d p1m p1e) m2 m2.1.1 (.slice m2a m2n m2c) (.slice m2d m2m m2e) _ (Ty.at_more Hp1.out mC) Wp1.out (Ty.at_more Hm2.out mC) Wm2.out).mono ?_); rintro e w4 ⟨rfl, hb4⟩; have HX4 := More.trans HX (show More _ w4 from mC); have HB4 := HB _ HX4; have hz4 := More.size HX4; (try simp at hz4); have hb4 := hb4; rw [Cd.out]) | (go_at_call 158; (with_reducible refine (spec_Side [.bool m1.1.1, .slice m1a m1n m1c, .slice m1d m1m m1e, .bool m3.1.1, .slice m3a m3n m3c, .slice m3d m3m m3e] m1 m3 [.bool m2.1.1, .slice m2a m2n m2c, .slice m2d m2m m2e, .bool m4.1.1, .slice m4a m4n m4c, .slice m4d m4m m4e] m2 m4 [.bool p1.1.1, .slice p1a p1n p1c, .slice p1d p1m p1e, .bool p2.1.1, .slice p2a p2n p2c, .slice p2d p2m p2e] p1 p2 _ (pt_at (Ty.at_more Hm1.out mC) (Ty.at_more Hm3.out mC)) (show wPoint (m1, m3) ≤ 1048576 from by have h1 := HW0.out; unfold wCell at h1; unfold wPoint; dsimp only at h1 ⊢; omega) (pt_at (Ty.at_more Hm2.out mC) (Ty.at_more Hm4.out mC)) (show wPoint (m2, m4) ≤ 1048576 from by have h1 := HW0.out; unfold wCell at h1; unfold wPoint; dsimp only at h1 ⊢; omega) (Ty.at_more HV1.out mC) HW1.out).mono ?_); rintro e w5 ⟨rfl, hb5⟩; have HX5 := More.trans HX (show More _ w5 from mC); have HB5 := HB _ HX5; have hz5 := More.size HX5; (try simp at hz5); have hb5 := hb5; rw [Cl.out]) | (go_at_call 158; (with_reducible refine (spec_Side [.bool m1.1.1, .slice m1a m1n m1c, .slice m1d m1m m1e, .bool m5.1.1, .slice m5a m5n m5c, .slice m5d m5m m5e] m1 m5 [.bool m2.1.1, .slice m2a m2n m2c, .slice m2d m2m m2e, .bool m6.1.1, .slice m6a m6n m6c, .slice m6d m6m m6e] m2 m6 [.bool p1.1.1, .slice p1a p1n p1c, .slice p1d p1m p1e, .bool p2.1.1, .slice p2a p2n p2c, .slice p2d p2m p2e] p1 p2 _ (pt_at (Ty.at_more Hm1.out mC) (Ty.at_more Hm5.out mC)) (show wPoint (m1, m5) ≤ 1048576 from by have h1 := HW0.out; unfold wCell at h1; unfold wPoint; dsimp only at h1 ⊢; omega) (pt_at (Ty.at_more Hm2.out mC) (Ty.at_more Hm6.out mC)) (show wPoint (m2, m6) ≤ 1048576 from by have h1 := HW0.out; unfold wCell at h1; unfold wPoint; dsimp only at h1 ⊢; omega) (Ty.at_more HV1.out mC) HW1.out).mono ?_); rintro e w6 ⟨rfl, hb6⟩; have HX6 := More.trans HX (show More _ w6 from mC); have HB6 := HB _ HX6; have hz6 := More.size HX6; (try simp at hz6); have hb6 := hb6; rw [Ch.out]))
      go_ret
      exact ⟨ret_bool (by unfold inCellB; rw [KC.out, KP.out, KI.out]; (rw [decide_eq_true (show 0 < lo by omega), decide_eq_true (show hi < 0 by omega)]; rfl)), mC⟩
    · skip
      have HX := More.refl ((w.alloc (.cells #[.bool m1.1.1, .slice m1a m1n m1c, .slice m1d m1m m1e, .bool m2.1.1, .slice m2a m2n m2c, .slice m2d m2m m2e, .bool m3.1.1, .slice m3a m3n m3c, .slice m3d m3m m3e, .bool m4.1.1, .slice m4a m4n m4c, .slice m4d m4m m4e, .bool m5.1.1, .slice m5a m5n m5c, .slice m5d m5m m5e, .bool m6.1.1, .slice m6a m6n m6c, .slice m6d m6m m6e] 62)).alloc (.cells #[.bool p1.1.1, .slice p1a p1n p1c, .slice p1d p1m p1e, .bool p2.1.1, .slice p2a p2n p2c, .slice p2d p2m p2e] 47))
      have HB := fun (w' : World) (h : More ((w.alloc (.cells #[.bool m1.1.1, .slice m1a m1n m1c, .slice m1d m1m m1e, .bool m2.1.1, .slice m2a m2n m2c, .slice m2d m2m m2e, .bool m3.1.1, .slice m3a m3n m3c, .slice m3d m3m m3e, .bool m4.1.1, .slice m4a m4n m4c, .slice m4d m4m m4e, .bool m5.1.1, .slice m5a m5n m5c, .slice m5d m5m m5e, .bool m6.1.1, .slice m6a m6n m6c, .slice m6d m6m m6e] 62)).alloc (.cells #[.bool p1.1.1, .slice p1a p1n p1c, .slice p1d p1m p1e, .bool p2.1.1, .slice p2a p2n p2c, .slice p2d p2m p2e] 47)) w') => And.intro (bx18 (w.heap.size) (by simp) (More.un h)) (bx6 (w.heap.size + 1) (by simp) h)
      have HC := fun (w' : World) (h : Turns [] _ w') => HB w' (Turns.more h)
      have HRK : ∀ w', More ((w.alloc (.cells #[.bool m1.1.1, .slice m1a m1n m1c, .slice m1d m1m m1e, .bool m2.1.1, .slice m2a m2n m2c, .slice m2d m2m m2e, .bool m3.1.1, .slice m3a m3n m3c, .slice m3d m3m m3e, .bool m4.1.1, .slice m4a m4n m4c, .slice m4d m4m m4e, .bool m5.1.1, .slice m5a m5n m5c, .slice m5d m5m m5e, .bool m6.1.1, .slice m6a m6n m6c, .slice m6d m6m m6e] 62)).alloc (.cells #[.bool p1.1.1, .slice p1a p1n p1c, .slice p1d p1m p1e, .bool p2.1.1, .slice p2a p2n p2c, .slice p2d p2m p2e] 47)) w' → w'.rangeAt (w.heap.size) 0 [.bool m1.1.1, .slice m1a m1n m1c, .slice m1d m1m m1e, .bool m2.1.1, .slice m2a m2n m2c, .slice m2d m2m m2e, .bool m3.1.1, .slice m3a m3n m3c, .slice m3d m3m m3e, .bool m4.1.1, .slice m4a m4n m4c, .slice m4d m4m m4e, .bool m5.1.1, .slice m5a m5n m5c, .slice m5d m5m m5e, .bool m6.1.1, .slice m6a m6n m6c, .slice m6d m6m m6e] := fun w' h => box_range (by simp) (More.un h)
      go_enter Tryz.func109, Tryz.ntmps109
      go_wp2_with (first | (refine wpList_load_mid rfl _ _ rfl (w.heap.size) 0 rfl _ _ (HRK _ mC) Tryz.underlying62 rfl (by kernel_rfl) ?_) | (refine wpList_load_midG rfl _ _ rfl (w.heap.size) 0 rfl _ _ (HRK _ mC) Tryz.underlying62 rfl (by kernel_rfl) ?_) | (go_at_call 79; (with_reducible refine (spec_IsValidCell _ m1 m2 m3 m4 m5 m6 _ (Ty.at_more HV0.out mC) HW0.out).mono ?_); rintro e w1 ⟨rfl, hb1⟩; have HX1 := More.trans HX (show More _ w1 from mC); have HB1 := HB _ HX1; have hz1 := More.size HX1; (try simp at hz1); have hb1 := hb1; rw [KC.out]) | (go_at_call 136; (with_reducible refine (spec_IsValidPoint [.bool p1.1.1, .slice p1a p1n p1c, .slice p1d p1m p1e, .bool p2.1.1, .slice p2a p2n p2c, .slice p2d p2m p2e] p1 p2 _ (Ty.at_more HV1.out mC) HW1.out).mono ?_); rintro e w2 ⟨rfl, hb2⟩; have HX2 := More.trans HX (show More _ w2 from mC); have HB2 := HB _ HX2; have hz2 := More.size HX2; (try simp at hz2); have hb2 := hb2; rw [KP.out]) | (go_at_call 46; (with_reducible refine (spec_RatCmpX p1 p1.1.1 (.slice p1a p1n p1c) (.slice p1d p1m p1e) m1 m1.1.1 (.slice m1a m1n m1c) (.slice m1d m1m m1e) _ (Ty.at_more Hp1.out mC) Wp1.out (Ty.at_more Hm1.out mC) Wm1.out).mono ?_); rintro e w3 ⟨rfl, hb3⟩; have HX3 := More.trans HX (show More _ w3 from mC); have HB3 := HB _ HX3; have hz3 := More.size HX3; (try simp at hz3); have hb3 := hb3; rw [Cc.out]) | (go_at_call 46; (with_reducible refine (spec_RatCmpX p1 p1.1.1 (.slice p1a p1n p1c) (.slice p1d p1m p1e) m2 m2.1.1 (.slice m2a m2n m2c) (.slice m2d m2m m2e) _ (Ty.at_more Hp1.out mC) Wp1.out (Ty.at_more Hm2.out mC) Wm2.out).mono ?_); rintro e w4 ⟨rfl, hb4⟩; have HX4 := More.trans HX (show More _ w4 from mC); have HB4 := HB _ HX4; have hz4 := More.size HX4; (try simp at hz4); have hb4 := hb4; rw [Cd.out]) | (go_at_call 158; (with_reducible refine (spec_Side [.bool m1.1.1, .slice m1a m1n m1c, .slice m1d m1m m1e, .bool m3.1.1, .slice m3a m3n m3c, .slice m3d m3m m3e] m1 m3 [.bool m2.1.1, .slice m2a m2n m2c, .slice m2d m2m m2e, .bool m4.1.1, .slice m4a m4n m4c, .slice m4d m4m m4e] m2 m4 [.bool p1.1.1, .slice p1a p1n p1c, .slice p1d p1m p1e, .bool p2.1.1, .slice p2a p2n p2c, .slice p2d p2m p2e] p1 p2 _ (pt_at (Ty.at_more Hm1.out mC) (Ty.at_more Hm3.out mC)) (show wPoint (m1, m3) ≤ 1048576 from by have h1 := HW0.out; unfold wCell at h1; unfold wPoint; dsimp only at h1 ⊢; omega) (pt_at (Ty.at_more Hm2.out mC) (Ty.at_more Hm4.out mC)) (show wPoint (m2, m4) ≤ 1048576 from by have h1 := HW0.out; unfold wCell at h1; unfold wPoint; dsimp only at h1 ⊢; omega) (Ty.at_more HV1.out mC) HW1.out).mono ?_); rintro e w5 ⟨rfl, hb5⟩; have HX5 := More.trans HX (show More _ w5 from mC); have HB5 := HB _ HX5; have hz5 := More.size HX5; (try simp at hz5); have hb5 := hb5; rw [Cl.out]) | (go_at_call 158; (with_reducible refine (spec_Side [.bool m1.1.1, .slice m1a m1n m1c, .slice m1d m1m m1e, .bool m5.1.1, .slice m5a m5n m5c, .slice m5d m5m m5e] m1 m5 [.bool m2.1.1, .slice m2a m2n m2c, .slice m2d m2m m2e, .bool m6.1.1, .slice m6a m6n m6c, .slice m6d m6m m6e] m2 m6 [.bool p1.1.1, .slice p1a p1n p1c, .slice p1d p1m p1e, .bool p2.1.1, .slice p2a p2n p2c, .slice p2d p2m p2e] p1 p2 _ (pt_at (Ty.at_more Hm1.out mC) (Ty.at_more Hm5.out mC)) (show wPoint (m1, m5) ≤ 1048576 from by have h1 := HW0.out; unfold wCell at h1; unfold wPoint; dsimp only at h1 ⊢; omega) (pt_at (Ty.at_more Hm2.out mC) (Ty.at_more Hm6.out mC)) (show wPoint (m2, m6) ≤ 1048576 from by have h1 := HW0.out; unfold wCell at h1; unfold wPoint; dsimp only at h1 ⊢; omega) (Ty.at_more HV1.out mC) HW1.out).mono ?_); rintro e w6 ⟨rfl, hb6⟩; have HX6 := More.trans HX (show More _ w6 from mC); have HB6 := HB _ HX6; have hz6 := More.size HX6; (try simp at hz6); have hb6 := hb6; rw [Ch.out]))
      go_ret
      exact ⟨ret_bool (by unfold inCellB; rw [KC.out, KP.out, KI.out]; (rw [decide_eq_true (show 0 < lo by omega), decide_eq_false (show ¬ hi < 0 by omega)]; rfl)), mC⟩
  · skip
    have HX := More.refl ((w.alloc (.cells #[.bool m1.1.1, .slice m1a m1n m1c, .slice m1d m1m m1e, .bool m2.1.1, .slice m2a m2n m2c, .slice m2d m2m m2e, .bool m3.1.1, .slice m3a m3n m3c, .slice m3d m3m m3e, .bool m4.1.1, .slice m4a m4n m4c, .slice m4d m4m m4e, .bool m5.1.1, .slice m5a m5n m5c, .slice m5d m5m m5e, .bool m6.1.1, .slice m6a m6n m6c, .slice m6d m6m m6e] 62)).alloc (.cells #[.bool p1.1.1, .slice p1a p1n p1c, .slice p1d p1m p1e, .bool p2.1.1, .slice p2a p2n p2c, .slice p2d p2m p2e] 47))
    have HB := fun (w' : World) (h : More ((w.alloc (.cells #[.bool m1.1.1, .slice m1a m1n m1c, .slice m1d m1m m1e, .bool m2.1.1, .slice m2a m2n m2c, .slice m2d m2m m2e, .bool m3.1.1, .slice m3a m3n m3c, .slice m3d m3m m3e, .bool m4.1.1, .slice m4a m4n m4c, .slice m4d m4m m4e, .bool m5.1.1, .slice m5a m5n m5c, .slice m5d m5m m5e, .bool m6.1.1, .slice m6a m6n m6c, .slice m6d m6m m6e] 62)).alloc (.cells #[.bool p1.1.1, .slice p1a p1n p1c, .slice p1d p1m p1e, .bool p2.1.1, .slice p2a p2n p2c, .slice p2d p2m p2e] 47)) w') => And.intro (bx18 (w.heap.size) (by simp) (More.un h)) (bx6 (w.heap.size + 1) (by simp) h)
    have HC := fun (w' : World) (h : Turns [] _ w') => HB w' (Turns.more h)
    have HRK : ∀ w', More ((w.alloc (.cells #[.bool m1.1.1, .slice m1a m1n m1c, .slice m1d m1m m1e, .bool m2.1.1, .slice m2a m2n m2c, .slice m2d m2m m2e, .bool m3.1.1, .slice m3a m3n m3c, .slice m3d m3m m3e, .bool m4.1.1, .slice m4a m4n m4c, .slice m4d m4m m4e, .bool m5.1.1, .slice m5a m5n m5c, .slice m5d m5m m5e, .bool m6.1.1, .slice m6a m6n m6c, .slice m6d m6m m6e] 62)).alloc (.cells #[.bool p1.1.1, .slice p1a p1n p1c, .slice p1d p1m p1e, .bool p2.1.1, .slice p2a p2n p2c, .slice p2d p2m p2e] 47)) w' → w'.rangeAt (w.heap.size) 0 [.bool m1.1.1, .slice m1a m1n m1c, .slice m1d m1m m1e, .bool m2.1.1, .slice m2a m2n m2c, .slice m2d m2m m2e, .bool m3.1.1, .slice m3a m3n m3c, .slice m3d m3m m3e, .bool m4.1.1, .slice m4a m4n m4c, .slice m4d m4m m4e, .bool m5.1.1, .slice m5a m5n m5c, .slice m5d m5m m5e, .bool m6.1.1, .slice m6a m6n m6c, .slice m6d m6m m6e] := fun w' h => box_range (by simp) (More.un h)
    go_enter Tryz.func109, Tryz.ntmps109
    go_wp2_with (first | (refine wpList_load_mid rfl _ _ rfl (w.heap.size) 0 rfl _ _ (HRK _ mC) Tryz.underlying62 rfl (by kernel_rfl) ?_) | (refine wpList_load_midG rfl _ _ rfl (w.heap.size) 0 rfl _ _ (HRK _ mC) Tryz.underlying62 rfl (by kernel_rfl) ?_) | (go_at_call 79; (with_reducible refine (spec_IsValidCell _ m1 m2 m3 m4 m5 m6 _ (Ty.at_more HV0.out mC) HW0.out).mono ?_); rintro e w1 ⟨rfl, hb1⟩; have HX1 := More.trans HX (show More _ w1 from mC); have HB1 := HB _ HX1; have hz1 := More.size HX1; (try simp at hz1); have hb1 := hb1; rw [KC.out]) | (go_at_call 136; (with_reducible refine (spec_IsValidPoint [.bool p1.1.1, .slice p1a p1n p1c, .slice p1d p1m p1e, .bool p2.1.1, .slice p2a p2n p2c, .slice p2d p2m p2e] p1 p2 _ (Ty.at_more HV1.out mC) HW1.out).mono ?_); rintro e w2 ⟨rfl, hb2⟩; have HX2 := More.trans HX (show More _ w2 from mC); have HB2 := HB _ HX2; have hz2 := More.size HX2; (try simp at hz2); have hb2 := hb2; rw [KP.out]) | (go_at_call 46; (with_reducible refine (spec_RatCmpX p1 p1.1.1 (.slice p1a p1n p1c) (.slice p1d p1m p1e) m1 m1.1.1 (.slice m1a m1n m1c) (.slice m1d m1m m1e) _ (Ty.at_more Hp1.out mC) Wp1.out (Ty.at_more Hm1.out mC) Wm1.out).mono ?_); rintro e w3 ⟨rfl, hb3⟩; have HX3 := More.trans HX (show More _ w3 from mC); have HB3 := HB _ HX3; have hz3 := More.size HX3; (try simp at hz3); have hb3 := hb3; rw [Cc.out]) | (go_at_call 46; (with_reducible refine (spec_RatCmpX p1 p1.1.1 (.slice p1a p1n p1c) (.slice p1d p1m p1e) m2 m2.1.1 (.slice m2a m2n m2c) (.slice m2d m2m m2e) _ (Ty.at_more Hp1.out mC) Wp1.out (Ty.at_more Hm2.out mC) Wm2.out).mono ?_); rintro e w4 ⟨rfl, hb4⟩; have HX4 := More.trans HX (show More _ w4 from mC); have HB4 := HB _ HX4; have hz4 := More.size HX4; (try simp at hz4); have hb4 := hb4; rw [Cd.out]) | (go_at_call 158; (with_reducible refine (spec_Side [.bool m1.1.1, .slice m1a m1n m1c, .slice m1d m1m m1e, .bool m3.1.1, .slice m3a m3n m3c, .slice m3d m3m m3e] m1 m3 [.bool m2.1.1, .slice m2a m2n m2c, .slice m2d m2m m2e, .bool m4.1.1, .slice m4a m4n m4c, .slice m4d m4m m4e] m2 m4 [.bool p1.1.1, .slice p1a p1n p1c, .slice p1d p1m p1e, .bool p2.1.1, .slice p2a p2n p2c, .slice p2d p2m p2e] p1 p2 _ (pt_at (Ty.at_more Hm1.out mC) (Ty.at_more Hm3.out mC)) (show wPoint (m1, m3) ≤ 1048576 from by have h1 := HW0.out; unfold wCell at h1; unfold wPoint; dsimp only at h1 ⊢; omega) (pt_at (Ty.at_more Hm2.out mC) (Ty.at_more Hm4.out mC)) (show wPoint (m2, m4) ≤ 1048576 from by have h1 := HW0.out; unfold wCell at h1; unfold wPoint; dsimp only at h1 ⊢; omega) (Ty.at_more HV1.out mC) HW1.out).mono ?_); rintro e w5 ⟨rfl, hb5⟩; have HX5 := More.trans HX (show More _ w5 from mC); have HB5 := HB _ HX5; have hz5 := More.size HX5; (try simp at hz5); have hb5 := hb5; rw [Cl.out]) | (go_at_call 158; (with_reducible refine (spec_Side [.bool m1.1.1, .slice m1a m1n m1c, .slice m1d m1m m1e, .bool m5.1.1, .slice m5a m5n m5c, .slice m5d m5m m5e] m1 m5 [.bool m2.1.1, .slice m2a m2n m2c, .slice m2d m2m m2e, .bool m6.1.1, .slice m6a m6n m6c, .slice m6d m6m m6e] m2 m6 [.bool p1.1.1, .slice p1a p1n p1c, .slice p1d p1m p1e, .bool p2.1.1, .slice p2a p2n p2c, .slice p2d p2m p2e] p1 p2 _ (pt_at (Ty.at_more Hm1.out mC) (Ty.at_more Hm5.out mC)) (show wPoint (m1, m5) ≤ 1048576 from by have h1 := HW0.out; unfold wCell at h1; unfold wPoint; dsimp only at h1 ⊢; omega) (pt_at (Ty.at_more Hm2.out mC) (Ty.at_more Hm6.out mC)) (show wPoint (m2, m6) ≤ 1048576 from by have h1 := HW0.out; unfold wCell at h1; unfold wPoint; dsimp only at h1 ⊢; omega) (Ty.at_more HV1.out mC) HW1.out).mono ?_); rintro e w6 ⟨rfl, hb6⟩; have HX6 := More.trans HX (show More _ w6 from mC); have HB6 := HB _ HX6; have hz6 := More.size HX6; (try simp at hz6); have hb6 := hb6; rw [Ch.out]))
    go_ret
    exact ⟨ret_bool (by unfold inCellB; rw [KC.out, KP.out, KI.out]; rw [decide_eq_false (show ¬ 0 < lo by omega)]; simp), mC⟩
end Go.Proofs.YteihkhniibncnaaGreat
