/- Whether segments meet: the reference. -/
import Derived.Test.YtkhcblheekfdmaaThn
import Derived.Test.YtkhcblheekfdmaaSgd
namespace Go.Proofs.Ytkhcblheekfdmaa
open Go.RowKit
set_option maxRecDepth 8000 in
set_option maxHeartbeats 25600000 in
theorem spec_SegmentsMeet (cs0 : List Value) (a1 a2 : QR) (cs1 : List Value) (b1 b2 : QR) (cs2 : List Value) (c1 c2 : QR) (cs3 : List Value) (d1 d2 : QR) (w : World) (hv0 : tPoint.at w cs0 (a1, a2)) (hw0 : wPoint (a1, a2) ≤ 1048576) (hv1 : tPoint.at w cs1 (b1, b2)) (hw1 : wPoint (b1, b2) ≤ 1048576) (hv2 : tPoint.at w cs2 (c1, c2)) (hw2 : wPoint (c1, c2) ≤ 1048576) (hv3 : tPoint.at w cs3 (d1, d2)) (hw3 : wPoint (d1, d2) ≤ 1048576) :
    Calls Try.prog 74 #[.agg cs0.toArray, .agg cs1.toArray, .agg cs2.toArray, .agg cs3.toArray] w fun e w' => e = .returned (.bool (segB (a1, a2) (b1, b2) (c1, c2) (d1, d2))) ∧ More w w' := by
  obtain ⟨k0, d0, rfl, f0, e0⟩ := at_prod hv0
  have f1 := e0; clear e0
  have f0 : tRat.at w _ a1 := f0
  obtain ⟨a1a, a1n, a1c, a1d, a1m, a1e, rfl⟩ := sh_Rat f0
  have Ha1 := Lib.hid f0; clear f0
  try clear f0
  have Wa1 : Hid (wRat a1 ≤ 1048576) := Lib.hid (by have h := hw0; unfold wPoint at h; dsimp only at h; omega)
  have f1 : tRat.at w _ a2 := f1
  obtain ⟨a2a, a2n, a2c, a2d, a2m, a2e, rfl⟩ := sh_Rat f1
  have Ha2 := Lib.hid f1; clear f1
  try clear f1
  have Wa2 : Hid (wRat a2 ≤ 1048576) := Lib.hid (by have h := hw0; unfold wPoint at h; dsimp only at h; omega)
  try clear e0 e1
  have HV0 : Hid (tPoint.at w [.bool a1.1.1, .slice a1a a1n a1c, .slice a1d a1m a1e, .bool a2.1.1, .slice a2a a2n a2c, .slice a2d a2m a2e] (a1, a2)) := Lib.hid hv0; have HW0 := Lib.hid hw0; clear hv0 hw0
  obtain ⟨k0, d0, rfl, f0, e0⟩ := at_prod hv1
  have f1 := e0; clear e0
  have f0 : tRat.at w _ b1 := f0
  obtain ⟨b1a, b1n, b1c, b1d, b1m, b1e, rfl⟩ := sh_Rat f0
  have Hb1 := Lib.hid f0; clear f0
  try clear f0
  have Wb1 : Hid (wRat b1 ≤ 1048576) := Lib.hid (by have h := hw1; unfold wPoint at h; dsimp only at h; omega)
  have f1 : tRat.at w _ b2 := f1
  obtain ⟨b2a, b2n, b2c, b2d, b2m, b2e, rfl⟩ := sh_Rat f1
  have Hb2 := Lib.hid f1; clear f1
  try clear f1
  have Wb2 : Hid (wRat b2 ≤ 1048576) := Lib.hid (by have h := hw1; unfold wPoint at h; dsimp only at h; omega)
  try clear e0 e1
  have HV1 : Hid (tPoint.at w [.bool b1.1.1, .slice b1a b1n b1c, .slice b1d b1m b1e, .bool b2.1.1, .slice b2a b2n b2c, .slice b2d b2m b2e] (b1, b2)) := Lib.hid hv1; have HW1 := Lib.hid hw1; clear hv1 hw1
  obtain ⟨k0, d0, rfl, f0, e0⟩ := at_prod hv2
  have f1 := e0; clear e0
  have f0 : tRat.at w _ c1 := f0
  obtain ⟨c1a, c1n, c1c, c1d, c1m, c1e, rfl⟩ := sh_Rat f0
  have Hc1 := Lib.hid f0; clear f0
  try clear f0
  have Wc1 : Hid (wRat c1 ≤ 1048576) := Lib.hid (by have h := hw2; unfold wPoint at h; dsimp only at h; omega)
  have f1 : tRat.at w _ c2 := f1
  obtain ⟨c2a, c2n, c2c, c2d, c2m, c2e, rfl⟩ := sh_Rat f1
  have Hc2 := Lib.hid f1; clear f1
  try clear f1
  have Wc2 : Hid (wRat c2 ≤ 1048576) := Lib.hid (by have h := hw2; unfold wPoint at h; dsimp only at h; omega)
  try clear e0 e1
  have HV2 : Hid (tPoint.at w [.bool c1.1.1, .slice c1a c1n c1c, .slice c1d c1m c1e, .bool c2.1.1, .slice c2a c2n c2c, .slice c2d c2m c2e] (c1, c2)) := Lib.hid hv2; have HW2 := Lib.hid hw2; clear hv2 hw2
  obtain ⟨k0, d0, rfl, f0, e0⟩ := at_prod hv3
  have f1 := e0; clear e0
  have f0 : tRat.at w _ d1 := f0
  obtain ⟨d1a, d1n, d1c, d1d, d1m, d1e, rfl⟩ := sh_Rat f0
  have Hd1 := Lib.hid f0; clear f0
  try clear f0
  have Wd1 : Hid (wRat d1 ≤ 1048576) := Lib.hid (by have h := hw3; unfold wPoint at h; dsimp only at h; omega)
  have f1 : tRat.at w _ d2 := f1
  obtain ⟨d2a, d2n, d2c, d2d, d2m, d2e, rfl⟩ := sh_Rat f1
  have Hd2 := Lib.hid f1; clear f1
  try clear f1
  have Wd2 : Hid (wRat d2 ≤ 1048576) := Lib.hid (by have h := hw3; unfold wPoint at h; dsimp only at h; omega)
  try clear e0 e1
  have HV3 : Hid (tPoint.at w [.bool d1.1.1, .slice d1a d1n d1c, .slice d1d d1m d1e, .bool d2.1.1, .slice d2a d2n d2c, .slice d2d d2m d2e] (d1, d2)) := Lib.hid hv3; have HW3 := Lib.hid hw3; clear hv3 hw3
  show Calls Try.prog 74 #[.agg #[.bool a1.1.1, .slice a1a a1n a1c, .slice a1d a1m a1e, .bool a2.1.1, .slice a2a a2n a2c, .slice a2d a2m a2e], .agg #[.bool b1.1.1, .slice b1a b1n b1c, .slice b1d b1m b1e, .bool b2.1.1, .slice b2a b2n b2c, .slice b2d b2m b2e], .agg #[.bool c1.1.1, .slice c1a c1n c1c, .slice c1d c1m c1e, .bool c2.1.1, .slice c2a c2n c2c, .slice c2d c2m c2e], .agg #[.bool d1.1.1, .slice d1a d1n d1c, .slice d1d d1m d1e, .bool d2.1.1, .slice d2a d2n d2c, .slice d2d d2m d2e]] w _
  rcases Bool.eq_false_or_eq_true (pointB (a1, a2)) with k0 | k0
  rotate_left
  · have P0 := Lib.hid k0; clear k0
    have HX := More.refl ((((w.alloc (.cells #[.bool a1.1.1, .slice a1a a1n a1c, .slice a1d a1m a1e, .bool a2.1.1, .slice a2a a2n a2c, .slice a2d a2m a2e] 89)).alloc (.cells #[.bool b1.1.1, .slice b1a b1n b1c, .slice b1d b1m b1e, .bool b2.1.1, .slice b2a b2n b2c, .slice b2d b2m b2e] 89)).alloc (.cells #[.bool c1.1.1, .slice c1a c1n c1c, .slice c1d c1m c1e, .bool c2.1.1, .slice c2a c2n c2c, .slice c2d c2m c2e] 89)).alloc (.cells #[.bool d1.1.1, .slice d1a d1n d1c, .slice d1d d1m d1e, .bool d2.1.1, .slice d2a d2n d2c, .slice d2d d2m d2e] 89))
    have HB := fun (w' : World) (h : More ((((w.alloc (.cells #[.bool a1.1.1, .slice a1a a1n a1c, .slice a1d a1m a1e, .bool a2.1.1, .slice a2a a2n a2c, .slice a2d a2m a2e] 89)).alloc (.cells #[.bool b1.1.1, .slice b1a b1n b1c, .slice b1d b1m b1e, .bool b2.1.1, .slice b2a b2n b2c, .slice b2d b2m b2e] 89)).alloc (.cells #[.bool c1.1.1, .slice c1a c1n c1c, .slice c1d c1m c1e, .bool c2.1.1, .slice c2a c2n c2c, .slice c2d c2m c2e] 89)).alloc (.cells #[.bool d1.1.1, .slice d1a d1n d1c, .slice d1d d1m d1e, .bool d2.1.1, .slice d2a d2n d2c, .slice d2d d2m d2e] 89)) w') => And.intro (bx6 (w.heap.size) (by simp) (More.un (More.un (More.un h)))) (And.intro (bx6 (w.heap.size + 1) (by simp) (More.un (More.un h))) (And.intro (bx6 (w.heap.size + 1 + 1) (by simp) (More.un h)) (bx6 (w.heap.size + 1 + 1 + 1) (by simp) h)))
    have HC := fun (w' : World) (h : Turns [] _ w') => HB w' (Turns.more h)
    go_enter Try.func74, Try.ntmps74
    go_wp2_with (first | (go_at_call 110; (with_reducible refine (spec_IsValidPoint [.bool a1.1.1, .slice a1a a1n a1c, .slice a1d a1m a1e, .bool a2.1.1, .slice a2a a2n a2c, .slice a2d a2m a2e] a1 a2 _ (Ty.at_more HV0.out mC) HW0.out).mono ?_); rintro e w1 ⟨rfl, hb1⟩; have HX1 := More.trans HX (show More _ w1 from mC); have HB1 := HB _ HX1; have hz1 := More.size HX1; (try simp at hz1); have hb1 := hb1; rw [P0.out]))
    go_ret
    exact ⟨ret_bool (by simp [segB, P0.out]), mC⟩
  have P0 := Lib.hid k0
  have Ka1 := Lib.hid (pointB_parts k0).1
  have Ka2 := Lib.hid (pointB_parts k0).2
  clear k0
  rcases Bool.eq_false_or_eq_true (pointB (b1, b2)) with k1 | k1
  rotate_left
  · have P1 := Lib.hid k1; clear k1
    have HX := More.refl ((((w.alloc (.cells #[.bool a1.1.1, .slice a1a a1n a1c, .slice a1d a1m a1e, .bool a2.1.1, .slice a2a a2n a2c, .slice a2d a2m a2e] 89)).alloc (.cells #[.bool b1.1.1, .slice b1a b1n b1c, .slice b1d b1m b1e, .bool b2.1.1, .slice b2a b2n b2c, .slice b2d b2m b2e] 89)).alloc (.cells #[.bool c1.1.1, .slice c1a c1n c1c, .slice c1d c1m c1e, .bool c2.1.1, .slice c2a c2n c2c, .slice c2d c2m c2e] 89)).alloc (.cells #[.bool d1.1.1, .slice d1a d1n d1c, .slice d1d d1m d1e, .bool d2.1.1, .slice d2a d2n d2c, .slice d2d d2m d2e] 89))
    have HB := fun (w' : World) (h : More ((((w.alloc (.cells #[.bool a1.1.1, .slice a1a a1n a1c, .slice a1d a1m a1e, .bool a2.1.1, .slice a2a a2n a2c, .slice a2d a2m a2e] 89)).alloc (.cells #[.bool b1.1.1, .slice b1a b1n b1c, .slice b1d b1m b1e, .bool b2.1.1, .slice b2a b2n b2c, .slice b2d b2m b2e] 89)).alloc (.cells #[.bool c1.1.1, .slice c1a c1n c1c, .slice c1d c1m c1e, .bool c2.1.1, .slice c2a c2n c2c, .slice c2d c2m c2e] 89)).alloc (.cells #[.bool d1.1.1, .slice d1a d1n d1c, .slice d1d d1m d1e, .bool d2.1.1, .slice d2a d2n d2c, .slice d2d d2m d2e] 89)) w') => And.intro (bx6 (w.heap.size) (by simp) (More.un (More.un (More.un h)))) (And.intro (bx6 (w.heap.size + 1) (by simp) (More.un (More.un h))) (And.intro (bx6 (w.heap.size + 1 + 1) (by simp) (More.un h)) (bx6 (w.heap.size + 1 + 1 + 1) (by simp) h)))
    have HC := fun (w' : World) (h : Turns [] _ w') => HB w' (Turns.more h)
    go_enter Try.func74, Try.ntmps74
    go_wp2_with (first | (go_at_call 110; (with_reducible refine (spec_IsValidPoint [.bool a1.1.1, .slice a1a a1n a1c, .slice a1d a1m a1e, .bool a2.1.1, .slice a2a a2n a2c, .slice a2d a2m a2e] a1 a2 _ (Ty.at_more HV0.out mC) HW0.out).mono ?_); rintro e w1 ⟨rfl, hb1⟩; have HX1 := More.trans HX (show More _ w1 from mC); have HB1 := HB _ HX1; have hz1 := More.size HX1; (try simp at hz1); have hb1 := hb1; rw [P0.out]) | (go_at_call 110; (with_reducible refine (spec_IsValidPoint [.bool b1.1.1, .slice b1a b1n b1c, .slice b1d b1m b1e, .bool b2.1.1, .slice b2a b2n b2c, .slice b2d b2m b2e] b1 b2 _ (Ty.at_more HV1.out mC) HW1.out).mono ?_); rintro e w2 ⟨rfl, hb2⟩; have HX2 := More.trans HX (show More _ w2 from mC); have HB2 := HB _ HX2; have hz2 := More.size HX2; (try simp at hz2); have hb2 := hb2; rw [P1.out]))
    go_ret
    exact ⟨ret_bool (by simp [segB, P0.out, P1.out]), mC⟩
  have P1 := Lib.hid k1
  have Kb1 := Lib.hid (pointB_parts k1).1
  have Kb2 := Lib.hid (pointB_parts k1).2
  clear k1
  rcases Bool.eq_false_or_eq_true (pointB (c1, c2)) with k2 | k2
  rotate_left
  · have P2 := Lib.hid k2; clear k2
    have HX := More.refl ((((w.alloc (.cells #[.bool a1.1.1, .slice a1a a1n a1c, .slice a1d a1m a1e, .bool a2.1.1, .slice a2a a2n a2c, .slice a2d a2m a2e] 89)).alloc (.cells #[.bool b1.1.1, .slice b1a b1n b1c, .slice b1d b1m b1e, .bool b2.1.1, .slice b2a b2n b2c, .slice b2d b2m b2e] 89)).alloc (.cells #[.bool c1.1.1, .slice c1a c1n c1c, .slice c1d c1m c1e, .bool c2.1.1, .slice c2a c2n c2c, .slice c2d c2m c2e] 89)).alloc (.cells #[.bool d1.1.1, .slice d1a d1n d1c, .slice d1d d1m d1e, .bool d2.1.1, .slice d2a d2n d2c, .slice d2d d2m d2e] 89))
    have HB := fun (w' : World) (h : More ((((w.alloc (.cells #[.bool a1.1.1, .slice a1a a1n a1c, .slice a1d a1m a1e, .bool a2.1.1, .slice a2a a2n a2c, .slice a2d a2m a2e] 89)).alloc (.cells #[.bool b1.1.1, .slice b1a b1n b1c, .slice b1d b1m b1e, .bool b2.1.1, .slice b2a b2n b2c, .slice b2d b2m b2e] 89)).alloc (.cells #[.bool c1.1.1, .slice c1a c1n c1c, .slice c1d c1m c1e, .bool c2.1.1, .slice c2a c2n c2c, .slice c2d c2m c2e] 89)).alloc (.cells #[.bool d1.1.1, .slice d1a d1n d1c, .slice d1d d1m d1e, .bool d2.1.1, .slice d2a d2n d2c, .slice d2d d2m d2e] 89)) w') => And.intro (bx6 (w.heap.size) (by simp) (More.un (More.un (More.un h)))) (And.intro (bx6 (w.heap.size + 1) (by simp) (More.un (More.un h))) (And.intro (bx6 (w.heap.size + 1 + 1) (by simp) (More.un h)) (bx6 (w.heap.size + 1 + 1 + 1) (by simp) h)))
    have HC := fun (w' : World) (h : Turns [] _ w') => HB w' (Turns.more h)
    go_enter Try.func74, Try.ntmps74
    go_wp2_with (first | (go_at_call 110; (with_reducible refine (spec_IsValidPoint [.bool a1.1.1, .slice a1a a1n a1c, .slice a1d a1m a1e, .bool a2.1.1, .slice a2a a2n a2c, .slice a2d a2m a2e] a1 a2 _ (Ty.at_more HV0.out mC) HW0.out).mono ?_); rintro e w1 ⟨rfl, hb1⟩; have HX1 := More.trans HX (show More _ w1 from mC); have HB1 := HB _ HX1; have hz1 := More.size HX1; (try simp at hz1); have hb1 := hb1; rw [P0.out]) | (go_at_call 110; (with_reducible refine (spec_IsValidPoint [.bool b1.1.1, .slice b1a b1n b1c, .slice b1d b1m b1e, .bool b2.1.1, .slice b2a b2n b2c, .slice b2d b2m b2e] b1 b2 _ (Ty.at_more HV1.out mC) HW1.out).mono ?_); rintro e w2 ⟨rfl, hb2⟩; have HX2 := More.trans HX (show More _ w2 from mC); have HB2 := HB _ HX2; have hz2 := More.size HX2; (try simp at hz2); have hb2 := hb2; rw [P1.out]) | (go_at_call 110; (with_reducible refine (spec_IsValidPoint [.bool c1.1.1, .slice c1a c1n c1c, .slice c1d c1m c1e, .bool c2.1.1, .slice c2a c2n c2c, .slice c2d c2m c2e] c1 c2 _ (Ty.at_more HV2.out mC) HW2.out).mono ?_); rintro e w3 ⟨rfl, hb3⟩; have HX3 := More.trans HX (show More _ w3 from mC); have HB3 := HB _ HX3; have hz3 := More.size HX3; (try simp at hz3); have hb3 := hb3; rw [P2.out]))
    go_ret
    exact ⟨ret_bool (by simp [segB, P0.out, P1.out, P2.out]), mC⟩
  have P2 := Lib.hid k2
  have Kc1 := Lib.hid (pointB_parts k2).1
  have Kc2 := Lib.hid (pointB_parts k2).2
  clear k2
  rcases Bool.eq_false_or_eq_true (pointB (d1, d2)) with k3 | k3
  rotate_left
  · have P3 := Lib.hid k3; clear k3
    have HX := More.refl ((((w.alloc (.cells #[.bool a1.1.1, .slice a1a a1n a1c, .slice a1d a1m a1e, .bool a2.1.1, .slice a2a a2n a2c, .slice a2d a2m a2e] 89)).alloc (.cells #[.bool b1.1.1, .slice b1a b1n b1c, .slice b1d b1m b1e, .bool b2.1.1, .slice b2a b2n b2c, .slice b2d b2m b2e] 89)).alloc (.cells #[.bool c1.1.1, .slice c1a c1n c1c, .slice c1d c1m c1e, .bool c2.1.1, .slice c2a c2n c2c, .slice c2d c2m c2e] 89)).alloc (.cells #[.bool d1.1.1, .slice d1a d1n d1c, .slice d1d d1m d1e, .bool d2.1.1, .slice d2a d2n d2c, .slice d2d d2m d2e] 89))
    have HB := fun (w' : World) (h : More ((((w.alloc (.cells #[.bool a1.1.1, .slice a1a a1n a1c, .slice a1d a1m a1e, .bool a2.1.1, .slice a2a a2n a2c, .slice a2d a2m a2e] 89)).alloc (.cells #[.bool b1.1.1, .slice b1a b1n b1c, .slice b1d b1m b1e, .bool b2.1.1, .slice b2a b2n b2c, .slice b2d b2m b2e] 89)).alloc (.cells #[.bool c1.1.1, .slice c1a c1n c1c, .slice c1d c1m c1e, .bool c2.1.1, .slice c2a c2n c2c, .slice c2d c2m c2e] 89)).alloc (.cells #[.bool d1.1.1, .slice d1a d1n d1c, .slice d1d d1m d1e, .bool d2.1.1, .slice d2a d2n d2c, .slice d2d d2m d2e] 89)) w') => And.intro (bx6 (w.heap.size) (by simp) (More.un (More.un (More.un h)))) (And.intro (bx6 (w.heap.size + 1) (by simp) (More.un (More.un h))) (And.intro (bx6 (w.heap.size + 1 + 1) (by simp) (More.un h)) (bx6 (w.heap.size + 1 + 1 + 1) (by simp) h)))
    have HC := fun (w' : World) (h : Turns [] _ w') => HB w' (Turns.more h)
    go_enter Try.func74, Try.ntmps74
    go_wp2_with (first | (go_at_call 110; (with_reducible refine (spec_IsValidPoint [.bool a1.1.1, .slice a1a a1n a1c, .slice a1d a1m a1e, .bool a2.1.1, .slice a2a a2n a2c, .slice a2d a2m a2e] a1 a2 _ (Ty.at_more HV0.out mC) HW0.out).mono ?_); rintro e w1 ⟨rfl, hb1⟩; have HX1 := More.trans HX (show More _ w1 from mC); have HB1 := HB _ HX1; have hz1 := More.size HX1; (try simp at hz1); have hb1 := hb1; rw [P0.out]) | (go_at_call 110; (with_reducible refine (spec_IsValidPoint [.bool b1.1.1, .slice b1a b1n b1c, .slice b1d b1m b1e, .bool b2.1.1, .slice b2a b2n b2c, .slice b2d b2m b2e] b1 b2 _ (Ty.at_more HV1.out mC) HW1.out).mono ?_); rintro e w2 ⟨rfl, hb2⟩; have HX2 := More.trans HX (show More _ w2 from mC); have HB2 := HB _ HX2; have hz2 := More.size HX2; (try simp at hz2); have hb2 := hb2; rw [P1.out]) | (go_at_call 110; (with_reducible refine (spec_IsValidPoint [.bool c1.1.1, .slice c1a c1n c1c, .slice c1d c1m c1e, .bool c2.1.1, .slice c2a c2n c2c, .slice c2d c2m c2e] c1 c2 _ (Ty.at_more HV2.out mC) HW2.out).mono ?_); rintro e w3 ⟨rfl, hb3⟩; have HX3 := More.trans HX (show More _ w3 from mC); have HB3 := HB _ HX3; have hz3 := More.size HX3; (try simp at hz3); have hb3 := hb3; rw [P2.out]) | (go_at_call 110; (with_reducible refine (spec_IsValidPoint [.bool d1.1.1, .slice d1a d1n d1c, .slice d1d d1m d1e, .bool d2.1.1, .slice d2a d2n d2c, .slice d2d d2m d2e] d1 d2 _ (Ty.at_more HV3.out mC) HW3.out).mono ?_); rintro e w4 ⟨rfl, hb4⟩; have HX4 := More.trans HX (show More _ w4 from mC); have HB4 := HB _ HX4; have hz4 := More.size HX4; (try simp at hz4); have hb4 := hb4; rw [P3.out]))
    go_ret
    exact ⟨ret_bool (by simp [segB, P0.out, P1.out, P2.out, P3.out]), mC⟩
  have P3 := Lib.hid k3
  have Kd1 := Lib.hid (pointB_parts k3).1
  have Kd2 := Lib.hid (pointB_parts k3).2
  clear k3
  obtain ⟨s, zs⟩ : ∃ c, sideF (a1, a2) (b1, b2) (c1, c2) = c := ⟨_, rfl⟩
  have Rs : -1 ≤ s ∧ s ≤ 1 := by rw [← zs]; exact sideF_range _ _ _
  have Ls := Lib.hid zs; clear zs
  obtain ⟨t, zt⟩ : ∃ c, sideF (a1, a2) (b1, b2) (d1, d2) = c := ⟨_, rfl⟩
  have Rt : -1 ≤ t ∧ t ≤ 1 := by rw [← zt]; exact sideF_range _ _ _
  have Lt := Lib.hid zt; clear zt
  obtain ⟨u, zu⟩ : ∃ c, sideF (c1, c2) (d1, d2) (a1, a2) = c := ⟨_, rfl⟩
  have Ru : -1 ≤ u ∧ u ≤ 1 := by rw [← zu]; exact sideF_range _ _ _
  have Lu := Lib.hid zu; clear zu
  obtain ⟨v, zv⟩ : ∃ c, sideF (c1, c2) (d1, d2) (b1, b2) = c := ⟨_, rfl⟩
  have Rv : -1 ≤ v ∧ v ≤ 1 := by rw [← zv]; exact sideF_range _ _ _
  have Lv := Lib.hid zv; clear zv
  obtain ⟨x1, zx1⟩ : ∃ c, spanPB (c1, c2) (a1, a2) (b1, b2) = c := ⟨_, rfl⟩
  have Lx1 := Lib.hid zx1; clear zx1
  obtain ⟨x2, zx2⟩ : ∃ c, spanPB (d1, d2) (a1, a2) (b1, b2) = c := ⟨_, rfl⟩
  have Lx2 := Lib.hid zx2; clear zx2
  obtain ⟨x3, zx3⟩ : ∃ c, spanPB (a1, a2) (c1, c2) (d1, d2) = c := ⟨_, rfl⟩
  have Lx3 := Lib.hid zx3; clear zx3
  obtain ⟨x4, zx4⟩ : ∃ c, spanPB (b1, b2) (c1, c2) (d1, d2) = c := ⟨_, rfl⟩
  have Lx4 := Lib.hid zx4; clear zx4
  have g1 := wrap_mul1 Rs Rt; have g2 := wrap_mul1 Ru Rv
  clear Rs Rt Ru Rv
  obtain ⟨p, hp⟩ : ∃ c, decide (s * t < 0) = c := ⟨_, rfl⟩
  obtain ⟨q, hq⟩ : ∃ c, decide (u * v < 0) = c := ⟨_, rfl⟩
  obtain ⟨o1, hb1q⟩ : ∃ c, (s == (0 : Int)) = c := ⟨_, rfl⟩
  obtain ⟨o2, hb2q⟩ : ∃ c, (t == (0 : Int)) = c := ⟨_, rfl⟩
  obtain ⟨o3, hb3q⟩ : ∃ c, (u == (0 : Int)) = c := ⟨_, rfl⟩
  obtain ⟨o4, hb4q⟩ : ∃ c, (v == (0 : Int)) = c := ⟨_, rfl⟩
  have EE : Hid (meetB (a1, a2) (b1, b2) (c1, c2) (d1, d2) = ((p && q) || ((o1 && x1) || ((o2 && x2) || ((o3 && x3) || (o4 && x4)))))) := Lib.hid (by unfold meetB; rw [Ls.out, Lt.out, Lu.out, Lv.out, Lx1.out, Lx2.out, Lx3.out, Lx4.out, hp, hq, hb1q, hb2q, hb3q, hb4q])
  rw [show segB (a1, a2) (b1, b2) (c1, c2) (d1, d2) = _ from by unfold segB; rw [P0.out, P1.out, P2.out, P3.out, Bool.true_and, Bool.true_and, Bool.true_and, Bool.true_and, EE.out]]
  have HX := More.refl ((((w.alloc (.cells #[.bool a1.1.1, .slice a1a a1n a1c, .slice a1d a1m a1e, .bool a2.1.1, .slice a2a a2n a2c, .slice a2d a2m a2e] 89)).alloc (.cells #[.bool b1.1.1, .slice b1a b1n b1c, .slice b1d b1m b1e, .bool b2.1.1, .slice b2a b2n b2c, .slice b2d b2m b2e] 89)).alloc (.cells #[.bool c1.1.1, .slice c1a c1n c1c, .slice c1d c1m c1e, .bool c2.1.1, .slice c2a c2n c2c, .slice c2d c2m c2e] 89)).alloc (.cells #[.bool d1.1.1, .slice d1a d1n d1c, .slice d1d d1m d1e, .bool d2.1.1, .slice d2a d2n d2c, .slice d2d d2m d2e] 89))
  have HB := fun (w' : World) (h : More ((((w.alloc (.cells #[.bool a1.1.1, .slice a1a a1n a1c, .slice a1d a1m a1e, .bool a2.1.1, .slice a2a a2n a2c, .slice a2d a2m a2e] 89)).alloc (.cells #[.bool b1.1.1, .slice b1a b1n b1c, .slice b1d b1m b1e, .bool b2.1.1, .slice b2a b2n b2c, .slice b2d b2m b2e] 89)).alloc (.cells #[.bool c1.1.1, .slice c1a c1n c1c, .slice c1d c1m c1e, .bool c2.1.1, .slice c2a c2n c2c, .slice c2d c2m c2e] 89)).alloc (.cells #[.bool d1.1.1, .slice d1a d1n d1c, .slice d1d d1m d1e, .bool d2.1.1, .slice d2a d2n d2c, .slice d2d d2m d2e] 89)) w') => And.intro (bx6 (w.heap.size) (by simp) (More.un (More.un (More.un h)))) (And.intro (bx6 (w.heap.size + 1) (by simp) (More.un (More.un h))) (And.intro (bx6 (w.heap.size + 1 + 1) (by simp) (More.un h)) (bx6 (w.heap.size + 1 + 1 + 1) (by simp) h)))
  have HC := fun (w' : World) (h : Turns [] _ w') => HB w' (Turns.more h)
  go_enter Try.func74, Try.ntmps74
  go_upto_region 3 with (first | (go_at_call 110; (with_reducible refine (spec_IsValidPoint [.bool a1.1.1, .slice a1a a1n a1c, .slice a1d a1m a1e, .bool a2.1.1, .slice a2a a2n a2c, .slice a2d a2m a2e] a1 a2 _ (Ty.at_more HV0.out mC) HW0.out).mono ?_); rintro e w1 ⟨rfl, hb1⟩; have HX1 := More.trans HX (show More _ w1 from mC); have HB1 := HB _ HX1; have hz1 := More.size HX1; (try simp at hz1); have hb1 := hb1; rw [P0.out]) | (go_at_call 110; (with_reducible refine (spec_IsValidPoint [.bool b1.1.1, .slice b1a b1n b1c, .slice b1d b1m b1e, .bool b2.1.1, .slice b2a b2n b2c, .slice b2d b2m b2e] b1 b2 _ (Ty.at_more HV1.out mC) HW1.out).mono ?_); rintro e w2 ⟨rfl, hb2⟩; have HX2 := More.trans HX (show More _ w2 from mC); have HB2 := HB _ HX2; have hz2 := More.size HX2; (try simp at hz2); have hb2 := hb2; rw [P1.out]) | (go_at_call 110; (with_reducible refine (spec_IsValidPoint [.bool c1.1.1, .slice c1a c1n c1c, .slice c1d c1m c1e, .bool c2.1.1, .slice c2a c2n c2c, .slice c2d c2m c2e] c1 c2 _ (Ty.at_more HV2.out mC) HW2.out).mono ?_); rintro e w3 ⟨rfl, hb3⟩; have HX3 := More.trans HX (show More _ w3 from mC); have HB3 := HB _ HX3; have hz3 := More.size HX3; (try simp at hz3); have hb3 := hb3; rw [P2.out]) | (go_at_call 110; (with_reducible refine (spec_IsValidPoint [.bool d1.1.1, .slice d1a d1n d1c, .slice d1d d1m d1e, .bool d2.1.1, .slice d2a d2n d2c, .slice d2d d2m d2e] d1 d2 _ (Ty.at_more HV3.out mC) HW3.out).mono ?_); rintro e w4 ⟨rfl, hb4⟩; have HX4 := More.trans HX (show More _ w4 from mC); have HB4 := HB _ HX4; have hz4 := More.size HX4; (try simp at hz4); have hb4 := hb4; rw [P3.out]))
  go_cut [9] (fun sl wx => sl = .int .i64 s ∧ More ((((w.alloc (.cells #[.bool a1.1.1, .slice a1a a1n a1c, .slice a1d a1m a1e, .bool a2.1.1, .slice a2a a2n a2c, .slice a2d a2m a2e] 89)).alloc (.cells #[.bool b1.1.1, .slice b1a b1n b1c, .slice b1d b1m b1e, .bool b2.1.1, .slice b2a b2n b2c, .slice b2d b2m b2e] 89)).alloc (.cells #[.bool c1.1.1, .slice c1a c1n c1c, .slice c1d c1m c1e, .bool c2.1.1, .slice c2a c2n c2c, .slice c2d c2m c2e] 89)).alloc (.cells #[.bool d1.1.1, .slice d1a d1n d1c, .slice d1d d1m d1e, .bool d2.1.1, .slice d2a d2n d2c, .slice d2d d2m d2e] 89)) wx)
  case first =>
    go_wp2_with (first | (go_at_call 128; (with_reducible refine (spec_Side [.bool a1.1.1, .slice a1a a1n a1c, .slice a1d a1m a1e, .bool a2.1.1, .slice a2a a2n a2c, .slice a2d a2m a2e] a1 a2 [.bool b1.1.1, .slice b1a b1n b1c, .slice b1d b1m b1e, .bool b2.1.1, .slice b2a b2n b2c, .slice b2d b2m b2e] b1 b2 [.bool c1.1.1, .slice c1a c1n c1c, .slice c1d c1m c1e, .bool c2.1.1, .slice c2a c2n c2c, .slice c2d c2m c2e] c1 c2 _ (Ty.at_more HV0.out mC) HW0.out (Ty.at_more HV1.out mC) HW1.out (Ty.at_more HV2.out mC) HW2.out).mono ?_); rintro e w5 ⟨rfl, hb5⟩; rw [Ls.out]; have HX5 := More.trans HX (show More _ w5 from mC); have HB5 := HB _ HX5; have hz5 := More.size HX5; (try simp at hz5); have hb5 := hb5))
    go_meet
    exact ⟨rfl, mC⟩
  case rest =>
  rename World => wa
  obtain ⟨rfl, hm1⟩ := hcut
  have HC' := HC
  clear HC
  have HC := fun (w' : World) (h : Turns [] wa w') => HC' w' ((More.turns hm1 _).trans h)
  have HB' := HB
  clear HB HX
  have HB := fun (w' : World) (h : More wa w') => HB' w' (More.trans hm1 h)
  have HBr1 := HB _ (More.refl _)
  go_upto_region 4 with fail
  go_cut [10] (fun sl wx => sl = .int .i64 t ∧ More wa wx)
  case first =>
    go_wp2_with (first | (go_at_call 128; (with_reducible refine (spec_Side [.bool a1.1.1, .slice a1a a1n a1c, .slice a1d a1m a1e, .bool a2.1.1, .slice a2a a2n a2c, .slice a2d a2m a2e] a1 a2 [.bool b1.1.1, .slice b1a b1n b1c, .slice b1d b1m b1e, .bool b2.1.1, .slice b2a b2n b2c, .slice b2d b2m b2e] b1 b2 [.bool d1.1.1, .slice d1a d1n d1c, .slice d1d d1m d1e, .bool d2.1.1, .slice d2a d2n d2c, .slice d2d d2m d2e] d1 d2 _ (Ty.at_more HV0.out mC) HW0.out (Ty.at_more HV1.out mC) HW1.out (Ty.at_more HV3.out mC) HW3.out).mono ?_); rintro e w6 ⟨rfl, hb6⟩; rw [Lt.out]; have HX6 : More wa w6 := mC; have HB6 := HB _ HX6; have hz6 := More.size HX6; (try simp at hz6); have hb6 := hb6))
    go_meet
    exact ⟨rfl, mC⟩
  case rest =>
  rename World => wb
  obtain ⟨rfl, hm2⟩ := hcut
  have HC' := HC
  clear HC
  have HC := fun (w' : World) (h : Turns [] wb w') => HC' w' ((More.turns hm2 _).trans h)
  have HB' := HB
  clear HB
  have HB := fun (w' : World) (h : More wb w') => HB' w' (More.trans hm2 h)
  have HBr2 := HB _ (More.refl _)
  clear HBr1
  go_upto_region 5 with fail
  go_cut [11] (fun sl wx => sl = .int .i64 u ∧ More wb wx)
  case first =>
    go_wp2_with (first | (go_at_call 128; (with_reducible refine (spec_Side [.bool c1.1.1, .slice c1a c1n c1c, .slice c1d c1m c1e, .bool c2.1.1, .slice c2a c2n c2c, .slice c2d c2m c2e] c1 c2 [.bool d1.1.1, .slice d1a d1n d1c, .slice d1d d1m d1e, .bool d2.1.1, .slice d2a d2n d2c, .slice d2d d2m d2e] d1 d2 [.bool a1.1.1, .slice a1a a1n a1c, .slice a1d a1m a1e, .bool a2.1.1, .slice a2a a2n a2c, .slice a2d a2m a2e] a1 a2 _ (Ty.at_more HV2.out mC) HW2.out (Ty.at_more HV3.out mC) HW3.out (Ty.at_more HV0.out mC) HW0.out).mono ?_); rintro e w7 ⟨rfl, hb7⟩; rw [Lu.out]; have HX7 : More wb w7 := mC; have HB7 := HB _ HX7; have hz7 := More.size HX7; (try simp at hz7); have hb7 := hb7))
    go_meet
    exact ⟨rfl, mC⟩
  case rest =>
  rename World => wd
  obtain ⟨rfl, hm3⟩ := hcut
  have HC' := HC
  clear HC
  have HC := fun (w' : World) (h : Turns [] wd w') => HC' w' ((More.turns hm3 _).trans h)
  have HB' := HB
  clear HB
  have HB := fun (w' : World) (h : More wd w') => HB' w' (More.trans hm3 h)
  have HBr3 := HB _ (More.refl _)
  clear HBr2
  go_upto_region 6 with fail
  go_cut [12] (fun sl wx => sl = .int .i64 v ∧ More wd wx)
  case first =>
    go_wp2_with (first | (go_at_call 128; (with_reducible refine (spec_Side [.bool c1.1.1, .slice c1a c1n c1c, .slice c1d c1m c1e, .bool c2.1.1, .slice c2a c2n c2c, .slice c2d c2m c2e] c1 c2 [.bool d1.1.1, .slice d1a d1n d1c, .slice d1d d1m d1e, .bool d2.1.1, .slice d2a d2n d2c, .slice d2d d2m d2e] d1 d2 [.bool b1.1.1, .slice b1a b1n b1c, .slice b1d b1m b1e, .bool b2.1.1, .slice b2a b2n b2c, .slice b2d b2m b2e] b1 b2 _ (Ty.at_more HV2.out mC) HW2.out (Ty.at_more HV3.out mC) HW3.out (Ty.at_more HV1.out mC) HW1.out).mono ?_); rintro e w8 ⟨rfl, hb8⟩; rw [Lv.out]; have HX8 : More wd w8 := mC; have HB8 := HB _ HX8; have hz8 := More.size HX8; (try simp at hz8); have hb8 := hb8))
    go_meet
    exact ⟨rfl, mC⟩
  case rest =>
  rename World => we
  obtain ⟨rfl, hm4⟩ := hcut
  have HC' := HC
  clear HC
  have HC := fun (w' : World) (h : Turns [] we w') => HC' w' ((More.turns hm4 _).trans h)
  have HB' := HB
  clear HB
  have HB := fun (w' : World) (h : More we w') => HB' w' (More.trans hm4 h)
  have HBr4 := HB _ (More.refl _)
  clear HBr3
  go_upto_region 7 with fail
  go_cut [56] (fun sl wx => sl = .bool (p && q) ∧ More we wx)
  case first =>
    cases p
    rotate_left
    cases q
    all_goals
      go_wp2_with fail
      go_meet
      exact ⟨rfl, mC⟩
  case rest =>
  rename World => wf
  obtain ⟨rfl, hm5⟩ := hcut
  have HC' := HC
  clear HC
  have HC := fun (w' : World) (h : Turns [] wf w') => HC' w' ((More.turns hm5 _).trans h)
  have HB' := HB
  clear HB
  have HB := fun (w' : World) (h : More wf w') => HB' w' (More.trans hm5 h)
  have HBf := HB _ (More.refl _)
  clear HBr4
  obtain ⟨r, hr⟩ : ∃ r, (p && q) = r := ⟨_, rfl⟩
  rw [hr]
  clear hp hq
  cases r
  rotate_left
  · have HR := Lib.hid hr; clear hr
    go_wp2_with fail
    go_ret
    exact ⟨ret_bool (by rw [HR.out]; simp), mC⟩
  have HR := Lib.hid hr; clear hr
  rcases meet_tree3 p q o1 o2 o3 o4 x1 x2 x3 x4 with ⟨rfl, rfl⟩ | ⟨rfl, rfl, rfl, rfl⟩ | ⟨rfl, rfl, rfl, rfl, rfl, rfl⟩ | ⟨rfl, rfl, rfl, rfl, rfl, rfl, rfl, rfl⟩ | ⟨rfl, rfl, rfl, rfl, rfl, rfl, rfl, rfl⟩ | ⟨rfl, rfl, rfl, rfl, rfl, rfl, rfl⟩ | ⟨rfl, rfl, rfl, rfl, rfl, rfl, rfl⟩ | ⟨rfl, rfl, rfl, rfl, rfl, rfl, rfl⟩ | ⟨rfl, rfl, rfl, rfl, rfl, rfl⟩ | ⟨rfl, rfl, rfl, rfl, rfl⟩ | ⟨rfl, rfl, rfl, rfl, rfl, rfl, rfl⟩ | ⟨rfl, rfl, rfl, rfl, rfl, rfl, rfl⟩ | ⟨rfl, rfl, rfl, rfl, rfl, rfl⟩ | ⟨rfl, rfl, rfl, rfl, rfl, rfl⟩ | ⟨rfl, rfl, rfl, rfl, rfl, rfl⟩ | ⟨rfl, rfl, rfl, rfl, rfl⟩ | ⟨rfl, rfl, rfl⟩ | ⟨rfl, rfl, rfl, rfl, rfl⟩ | ⟨rfl, rfl, rfl, rfl, rfl, rfl, rfl⟩ | ⟨rfl, rfl, rfl, rfl, rfl, rfl, rfl⟩ | ⟨rfl, rfl, rfl, rfl, rfl, rfl⟩ | ⟨rfl, rfl, rfl, rfl, rfl, rfl⟩ | ⟨rfl, rfl, rfl, rfl, rfl, rfl⟩ | ⟨rfl, rfl, rfl, rfl, rfl⟩ | ⟨rfl, rfl, rfl, rfl⟩ | ⟨rfl, rfl, rfl, rfl, rfl, rfl⟩ | ⟨rfl, rfl, rfl, rfl, rfl, rfl⟩ | ⟨rfl, rfl, rfl, rfl, rfl⟩ | ⟨rfl, rfl, rfl, rfl, rfl⟩ | ⟨rfl, rfl, rfl, rfl, rfl⟩ | ⟨rfl, rfl, rfl, rfl⟩
  all_goals
    go_wp2_with (first | (go_at_call 129; (with_reducible refine (spec_l08Between [.bool c1.1.1, .slice c1a c1n c1c, .slice c1d c1m c1e, .bool c2.1.1, .slice c2a c2n c2c, .slice c2d c2m c2e] c1 c2 [.bool a1.1.1, .slice a1a a1n a1c, .slice a1d a1m a1e, .bool a2.1.1, .slice a2a a2n a2c, .slice a2d a2m a2e] a1 a2 [.bool b1.1.1, .slice b1a b1n b1c, .slice b1d b1m b1e, .bool b2.1.1, .slice b2a b2n b2c, .slice b2d b2m b2e] b1 b2 _ (Ty.at_more HV2.out mC) HW2.out (Ty.at_more HV0.out mC) HW0.out (Ty.at_more HV1.out mC) HW1.out Kc1.out Kc2.out Ka1.out Ka2.out Kb1.out Kb2.out).mono ?_); rintro e w9 ⟨rfl, hb9⟩; rw [Lx1.out]; have HX9 : More wf w9 := mC; have HB9 := HB _ HX9; have hz9 := More.size HX9; (try simp at hz9); have hb9 := hb9) | (go_at_call 129; (with_reducible refine (spec_l08Between [.bool d1.1.1, .slice d1a d1n d1c, .slice d1d d1m d1e, .bool d2.1.1, .slice d2a d2n d2c, .slice d2d d2m d2e] d1 d2 [.bool a1.1.1, .slice a1a a1n a1c, .slice a1d a1m a1e, .bool a2.1.1, .slice a2a a2n a2c, .slice a2d a2m a2e] a1 a2 [.bool b1.1.1, .slice b1a b1n b1c, .slice b1d b1m b1e, .bool b2.1.1, .slice b2a b2n b2c, .slice b2d b2m b2e] b1 b2 _ (Ty.at_more HV3.out mC) HW3.out (Ty.at_more HV0.out mC) HW0.out (Ty.at_more HV1.out mC) HW1.out Kd1.out Kd2.out Ka1.out Ka2.out Kb1.out Kb2.out).mono ?_); rintro e w10 ⟨rfl, hb10⟩; rw [Lx2.out]; have HX10 : More wf w10 := mC; have HB10 := HB _ HX10; have hz10 := More.size HX10; (try simp at hz10); have hb10 := hb10) | (go_at_call 129; (with_reducible refine (spec_l08Between [.bool a1.1.1, .slice a1a a1n a1c, .slice a1d a1m a1e, .bool a2.1.1, .slice a2a a2n a2c, .slice a2d a2m a2e] a1 a2 [.bool c1.1.1, .slice c1a c1n c1c, .slice c1d c1m c1e, .bool c2.1.1, .slice c2a c2n c2c, .slice c2d c2m c2e] c1 c2 [.bool d1.1.1, .slice d1a d1n d1c, .slice d1d d1m d1e, .bool d2.1.1, .slice d2a d2n d2c, .slice d2d d2m d2e] d1 d2 _ (Ty.at_more HV0.out mC) HW0.out (Ty.at_more HV2.out mC) HW2.out (Ty.at_more HV3.out mC) HW3.out Ka1.out Ka2.out Kc1.out Kc2.out Kd1.out Kd2.out).mono ?_); rintro e w11 ⟨rfl, hb11⟩; rw [Lx3.out]; have HX11 : More wf w11 := mC; have HB11 := HB _ HX11; have hz11 := More.size HX11; (try simp at hz11); have hb11 := hb11) | (go_at_call 129; (with_reducible refine (spec_l08Between [.bool b1.1.1, .slice b1a b1n b1c, .slice b1d b1m b1e, .bool b2.1.1, .slice b2a b2n b2c, .slice b2d b2m b2e] b1 b2 [.bool c1.1.1, .slice c1a c1n c1c, .slice c1d c1m c1e, .bool c2.1.1, .slice c2a c2n c2c, .slice c2d c2m c2e] c1 c2 [.bool d1.1.1, .slice d1a d1n d1c, .slice d1d d1m d1e, .bool d2.1.1, .slice d2a d2n d2c, .slice d2d d2m d2e] d1 d2 _ (Ty.at_more HV1.out mC) HW1.out (Ty.at_more HV2.out mC) HW2.out (Ty.at_more HV3.out mC) HW3.out Kb1.out Kb2.out Kc1.out Kc2.out Kd1.out Kd2.out).mono ?_); rintro e w12 ⟨rfl, hb12⟩; rw [Lx4.out]; have HX12 : More wf w12 := mC; have HB12 := HB _ HX12; have hz12 := More.size HX12; (try simp at hz12); have hb12 := hb12))
    go_ret
    exact ⟨ret_bool (by rw [HR.out]; simp), mC⟩
end Go.Proofs.Ytkhcblheekfdmaa
