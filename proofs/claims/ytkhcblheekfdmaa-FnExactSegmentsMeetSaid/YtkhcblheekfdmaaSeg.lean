/- Whether segments meet. -/
import Derived.Test.YtkhcblheekfdmaaThn
import Derived.Test.YtkhcblheekfdmaaSgm
import Derived.Test.YtkhcblheekfdmaaSgs
namespace Go.Proofs.Ytkhcblheekfdmaa
open Go.RowKit
set_option maxRecDepth 8000 in
set_option maxHeartbeats 25600000 in
theorem impl_SegmentsMeet (cs0 : List Value) (a1 a2 : QR) (cs1 : List Value) (b1 b2 : QR) (cs2 : List Value) (c1 c2 : QR) (cs3 : List Value) (d1 d2 : QR) (w : World) (hv0 : tPoint.at w cs0 (a1, a2)) (hw0 : wPoint (a1, a2) ≤ 1048576) (hv1 : tPoint.at w cs1 (b1, b2)) (hw1 : wPoint (b1, b2) ≤ 1048576) (hv2 : tPoint.at w cs2 (c1, c2)) (hw2 : wPoint (c1, c2) ≤ 1048576) (hv3 : tPoint.at w cs3 (d1, d2)) (hw3 : wPoint (d1, d2) ≤ 1048576) :
    Calls Try.prog 75 #[.agg cs0.toArray, .agg cs1.toArray, .agg cs2.toArray, .agg cs3.toArray] w fun e w' => e = .returned (.bool (segB (a1, a2) (b1, b2) (c1, c2) (d1, d2))) ∧ More w w' := by
  obtain ⟨k0, d0, rfl, f0, e0⟩ := at_prod hv0
  have f1 := e0; clear e0
  have f0 : tRat.at w _ a1 := f0
  obtain ⟨a1a, a1n, a1c, a1d, a1m, a1e, rfl⟩ := sh_Rat f0
  have Ha1 := Lib.hid f0; clear f0
  try clear f0
  have Wa1 : Hid (wRat a1 ≤ 1048576) := Lib.hid (by have h := hw0; unfold wPoint at h; dsimp only at h; omega)
  have f1 : tRat.at w _ a2 := f1
  obtain ⟨a2a, a2n, a2c, a2d, a2m, a2e, rfl⟩ := sh_Rat f1
  have Ha2 := Lib.hid f1; clear f1
  try clear f1
  have Wa2 : Hid (wRat a2 ≤ 1048576) := Lib.hid (by have h := hw0; unfold wPoint at h; dsimp only at h; omega)
  try clear e0 e1
  have HV0 : Hid (tPoint.at w [.bool a1.1.1, .slice a1a a1n a1c, .slice a1d a1m a1e, .bool a2.1.1, .slice a2a a2n a2c, .slice a2d a2m a2e] (a1, a2)) := Lib.hid hv0; have HW0 := Lib.hid hw0; clear hv0 hw0
  obtain ⟨k0, d0, rfl, f0, e0⟩ := at_prod hv1
  have f1 := e0; clear e0
  have f0 : tRat.at w _ b1 := f0
  obtain ⟨b1a, b1n, b1c, b1d, b1m, b1e, rfl⟩ := sh_Rat f0
  have Hb1 := Lib.hid f0; clear f0
  try clear f0
  have Wb1 : Hid (wRat b1 ≤ 1048576) := Lib.hid (by have h := hw1; unfold wPoint at h; dsimp only at h; omega)
  have f1 : tRat.at w _ b2 := f1
  obtain ⟨b2a, b2n, b2c, b2d, b2m, b2e, rfl⟩ := sh_Rat f1
  have Hb2 := Lib.hid f1; clear f1
  try clear f1
  have Wb2 : Hid (wRat b2 ≤ 1048576) := Lib.hid (by have h := hw1; unfold wPoint at h; dsimp only at h; omega)
  try clear e0 e1
  have HV1 : Hid (tPoint.at w [.bool b1.1.1, .slice b1a b1n b1c, .slice b1d b1m b1e, .bool b2.1.1, .slice b2a b2n b2c, .slice b2d b2m b2e] (b1, b2)) := Lib.hid hv1; have HW1 := Lib.hid hw1; clear hv1 hw1
  obtain ⟨k0, d0, rfl, f0, e0⟩ := at_prod hv2
  have f1 := e0; clear e0
  have f0 : tRat.at w _ c1 := f0
  obtain ⟨c1a, c1n, c1c, c1d, c1m, c1e, rfl⟩ := sh_Rat f0
  have Hc1 := Lib.hid f0; clear f0
  try clear f0
  have Wc1 : Hid (wRat c1 ≤ 1048576) := Lib.hid (by have h := hw2; unfold wPoint at h; dsimp only at h; omega)
  have f1 : tRat.at w _ c2 := f1
  obtain ⟨c2a, c2n, c2c, c2d, c2m, c2e, rfl⟩ := sh_Rat f1
  have Hc2 := Lib.hid f1; clear f1
  try clear f1
  have Wc2 : Hid (wRat c2 ≤ 1048576) := Lib.hid (by have h := hw2; unfold wPoint at h; dsimp only at h; omega)
  try clear e0 e1
  have HV2 : Hid (tPoint.at w [.bool c1.1.1, .slice c1a c1n c1c, .slice c1d c1m c1e, .bool c2.1.1, .slice c2a c2n c2c, .slice c2d c2m c2e] (c1, c2)) := Lib.hid hv2; have HW2 := Lib.hid hw2; clear hv2 hw2
  obtain ⟨k0, d0, rfl, f0, e0⟩ := at_prod hv3
  have f1 := e0; clear e0
  have f0 : tRat.at w _ d1 := f0
  obtain ⟨d1a, d1n, d1c, d1d, d1m, d1e, rfl⟩ := sh_Rat f0
  have Hd1 := Lib.hid f0; clear f0
  try clear f0
  have Wd1 : Hid (wRat d1 ≤ 1048576) := Lib.hid (by have h := hw3; unfold wPoint at h; dsimp only at h; omega)
  have f1 : tRat.at w _ d2 := f1
  obtain ⟨d2a, d2n, d2c, d2d, d2m, d2e, rfl⟩ := sh_Rat f1
  have Hd2 := Lib.hid f1; clear f1
  try clear f1
  have Wd2 : Hid (wRat d2 ≤ 1048576) := Lib.hid (by have h := hw3; unfold wPoint at h; dsimp only at h; omega)
  try clear e0 e1
  have HV3 : Hid (tPoint.at w [.bool d1.1.1, .slice d1a d1n d1c, .slice d1d d1m d1e, .bool d2.1.1, .slice d2a d2n d2c, .slice d2d d2m d2e] (d1, d2)) := Lib.hid hv3; have HW3 := Lib.hid hw3; clear hv3 hw3
  show Calls Try.prog 75 #[.agg #[.bool a1.1.1, .slice a1a a1n a1c, .slice a1d a1m a1e, .bool a2.1.1, .slice a2a a2n a2c, .slice a2d a2m a2e], .agg #[.bool b1.1.1, .slice b1a b1n b1c, .slice b1d b1m b1e, .bool b2.1.1, .slice b2a b2n b2c, .slice b2d b2m b2e], .agg #[.bool c1.1.1, .slice c1a c1n c1c, .slice c1d c1m c1e, .bool c2.1.1, .slice c2a c2n c2c, .slice c2d c2m c2e], .agg #[.bool d1.1.1, .slice d1a d1n d1c, .slice d1d d1m d1e, .bool d2.1.1, .slice d2a d2n d2c, .slice d2d d2m d2e]] w _
  have EE : Hid (segB (a1, a2) (b1, b2) (c1, c2) (d1, d2) = ([((a1, a2) : QP), (b1, b2), (c1, c2), (d1, d2)].all pointB && meetB (a1, a2) (b1, b2) (c1, c2) (d1, d2))) := Lib.hid (by unfold segB; simp only [List.all_cons, List.all_nil, Bool.and_true, Bool.and_assoc])
  rw [EE.out]
  rcases Bool.eq_false_or_eq_true ([((a1, a2) : QP), (b1, b2), (c1, c2), (d1, d2)].all pointB) with ka | ka
  rotate_left
  · have KA := Lib.hid ka; clear ka
    rw [KA.out]
    have HX := More.refl ((((w.alloc (.cells #[.bool a1.1.1, .slice a1a a1n a1c, .slice a1d a1m a1e, .bool a2.1.1, .slice a2a a2n a2c, .slice a2d a2m a2e] 89)).alloc (.cells #[.bool b1.1.1, .slice b1a b1n b1c, .slice b1d b1m b1e, .bool b2.1.1, .slice b2a b2n b2c, .slice b2d b2m b2e] 89)).alloc (.cells #[.bool c1.1.1, .slice c1a c1n c1c, .slice c1d c1m c1e, .bool c2.1.1, .slice c2a c2n c2c, .slice c2d c2m c2e] 89)).alloc (.cells #[.bool d1.1.1, .slice d1a d1n d1c, .slice d1d d1m d1e, .bool d2.1.1, .slice d2a d2n d2c, .slice d2d d2m d2e] 89))
    have HB := fun (w' : World) (h : More ((((w.alloc (.cells #[.bool a1.1.1, .slice a1a a1n a1c, .slice a1d a1m a1e, .bool a2.1.1, .slice a2a a2n a2c, .slice a2d a2m a2e] 89)).alloc (.cells #[.bool b1.1.1, .slice b1a b1n b1c, .slice b1d b1m b1e, .bool b2.1.1, .slice b2a b2n b2c, .slice b2d b2m b2e] 89)).alloc (.cells #[.bool c1.1.1, .slice c1a c1n c1c, .slice c1d c1m c1e, .bool c2.1.1, .slice c2a c2n c2c, .slice c2d c2m c2e] 89)).alloc (.cells #[.bool d1.1.1, .slice d1a d1n d1c, .slice d1d d1m d1e, .bool d2.1.1, .slice d2a d2n d2c, .slice d2d d2m d2e] 89)) w') => And.intro (bx6 (w.heap.size) (by simp) (More.un (More.un (More.un h)))) (And.intro (bx6 (w.heap.size + 1) (by simp) (More.un (More.un h))) (And.intro (bx6 (w.heap.size + 1 + 1) (by simp) (More.un h)) (bx6 (w.heap.size + 1 + 1 + 1) (by simp) h)))
    go_enter Try.func75, Try.ntmps75
    go_wp2_with (first | (go_at_call 108; refine (impl_arePoints _ [(a1, a2), (b1, b2), (c1, c2), (d1, d2)] _ (lit_at (S := tPoint) (n := 4) [([.bool a1.1.1, .slice a1a a1n a1c, .slice a1d a1m a1e, .bool a2.1.1, .slice a2a a2n a2c, .slice a2d a2m a2e], (a1, a2)), ([.bool b1.1.1, .slice b1a b1n b1c, .slice b1d b1m b1e, .bool b2.1.1, .slice b2a b2n b2c, .slice b2d b2m b2e], (b1, b2)), ([.bool c1.1.1, .slice c1a c1n c1c, .slice c1d c1m c1e, .bool c2.1.1, .slice c2a c2n c2c, .slice c2d c2m c2e], (c1, c2)), ([.bool d1.1.1, .slice d1a d1n d1c, .slice d1d d1m d1e, .bool d2.1.1, .slice d2a d2n d2c, .slice d2d d2m d2e], (d1, d2))] (by simp) rfl rfl (by decide) (by rintro p hp; simp only [List.mem_cons, List.not_mem_nil, or_false] at hp; rcases hp with rfl | rfl | rfl | rfl <;> first | exact ⟨rfl, (Ty.at_more HV0.out mC)⟩ | exact ⟨rfl, (Ty.at_more HV1.out mC)⟩ | exact ⟨rfl, (Ty.at_more HV2.out mC)⟩ | exact ⟨rfl, (Ty.at_more HV3.out mC)⟩) : (tSlice tPoint).at _ [_] [(a1, a2), (b1, b2), (c1, c2), (d1, d2)]) (by refine ⟨by simp, ?_⟩; intro x hx; simp only [List.mem_cons, List.not_mem_nil, or_false] at hx; rcases hx with rfl | rfl | rfl | rfl <;> first | exact HW0.out | exact HW1.out | exact HW2.out | exact HW3.out)).mono ?_; rintro e w1 ⟨rfl, hb1⟩; have HX1 := More.trans HX (show More _ w1 from mC); have HB1 := HB _ HX1; have hz1 := More.size HX1; (try simp at hz1); have hb1 := hb1; rw [KA.out]))
    go_ret
    exact ⟨rfl, mC⟩
  have KA := Lib.hid ka
  rw [KA.out]
  simp only [List.all_cons, List.all_nil, Bool.and_true, Bool.and_eq_true] at ka
  obtain ⟨ka, kb, kc, kd⟩ := ka
  have Ka1 := Lib.hid (pointB_parts ka).1
  have Ka2 := Lib.hid (pointB_parts ka).2
  have Kb1 := Lib.hid (pointB_parts kb).1
  have Kb2 := Lib.hid (pointB_parts kb).2
  have Kc1 := Lib.hid (pointB_parts kc).1
  have Kc2 := Lib.hid (pointB_parts kc).2
  have Kd1 := Lib.hid (pointB_parts kd).1
  have Kd2 := Lib.hid (pointB_parts kd).2
  clear ka kb kc kd
  obtain ⟨m, hm⟩ : ∃ m, meetB (a1, a2) (b1, b2) (c1, c2) (d1, d2) = m := ⟨_, rfl⟩
  have KM := Lib.hid hm
  rw [hm]
  clear hm
  have HX := More.refl ((((w.alloc (.cells #[.bool a1.1.1, .slice a1a a1n a1c, .slice a1d a1m a1e, .bool a2.1.1, .slice a2a a2n a2c, .slice a2d a2m a2e] 89)).alloc (.cells #[.bool b1.1.1, .slice b1a b1n b1c, .slice b1d b1m b1e, .bool b2.1.1, .slice b2a b2n b2c, .slice b2d b2m b2e] 89)).alloc (.cells #[.bool c1.1.1, .slice c1a c1n c1c, .slice c1d c1m c1e, .bool c2.1.1, .slice c2a c2n c2c, .slice c2d c2m c2e] 89)).alloc (.cells #[.bool d1.1.1, .slice d1a d1n d1c, .slice d1d d1m d1e, .bool d2.1.1, .slice d2a d2n d2c, .slice d2d d2m d2e] 89))
  have HB := fun (w' : World) (h : More ((((w.alloc (.cells #[.bool a1.1.1, .slice a1a a1n a1c, .slice a1d a1m a1e, .bool a2.1.1, .slice a2a a2n a2c, .slice a2d a2m a2e] 89)).alloc (.cells #[.bool b1.1.1, .slice b1a b1n b1c, .slice b1d b1m b1e, .bool b2.1.1, .slice b2a b2n b2c, .slice b2d b2m b2e] 89)).alloc (.cells #[.bool c1.1.1, .slice c1a c1n c1c, .slice c1d c1m c1e, .bool c2.1.1, .slice c2a c2n c2c, .slice c2d c2m c2e] 89)).alloc (.cells #[.bool d1.1.1, .slice d1a d1n d1c, .slice d1d d1m d1e, .bool d2.1.1, .slice d2a d2n d2c, .slice d2d d2m d2e] 89)) w') => And.intro (bx6 (w.heap.size) (by simp) (More.un (More.un (More.un h)))) (And.intro (bx6 (w.heap.size + 1) (by simp) (More.un (More.un h))) (And.intro (bx6 (w.heap.size + 1 + 1) (by simp) (More.un h)) (bx6 (w.heap.size + 1 + 1 + 1) (by simp) h)))
  go_enter Try.func75, Try.ntmps75
  go_wp2_with (first | (go_at_call 108; refine (impl_arePoints _ [(a1, a2), (b1, b2), (c1, c2), (d1, d2)] _ (lit_at (S := tPoint) (n := 4) [([.bool a1.1.1, .slice a1a a1n a1c, .slice a1d a1m a1e, .bool a2.1.1, .slice a2a a2n a2c, .slice a2d a2m a2e], (a1, a2)), ([.bool b1.1.1, .slice b1a b1n b1c, .slice b1d b1m b1e, .bool b2.1.1, .slice b2a b2n b2c, .slice b2d b2m b2e], (b1, b2)), ([.bool c1.1.1, .slice c1a c1n c1c, .slice c1d c1m c1e, .bool c2.1.1, .slice c2a c2n c2c, .slice c2d c2m c2e], (c1, c2)), ([.bool d1.1.1, .slice d1a d1n d1c, .slice d1d d1m d1e, .bool d2.1.1, .slice d2a d2n d2c, .slice d2d d2m d2e], (d1, d2))] (by simp) rfl rfl (by decide) (by rintro p hp; simp only [List.mem_cons, List.not_mem_nil, or_false] at hp; rcases hp with rfl | rfl | rfl | rfl <;> first | exact ⟨rfl, (Ty.at_more HV0.out mC)⟩ | exact ⟨rfl, (Ty.at_more HV1.out mC)⟩ | exact ⟨rfl, (Ty.at_more HV2.out mC)⟩ | exact ⟨rfl, (Ty.at_more HV3.out mC)⟩) : (tSlice tPoint).at _ [_] [(a1, a2), (b1, b2), (c1, c2), (d1, d2)]) (by refine ⟨by simp, ?_⟩; intro x hx; simp only [List.mem_cons, List.not_mem_nil, or_false] at hx; rcases hx with rfl | rfl | rfl | rfl <;> first | exact HW0.out | exact HW1.out | exact HW2.out | exact HW3.out)).mono ?_; rintro e w1 ⟨rfl, hb1⟩; have HX1 := More.trans HX (show More _ w1 from mC); have HB1 := HB _ HX1; have hz1 := More.size HX1; (try simp at hz1); have hb1 := hb1; rw [KA.out]) | (go_at_call 130; (with_reducible refine (impl_meet [.bool a1.1.1, .slice a1a a1n a1c, .slice a1d a1m a1e, .bool a2.1.1, .slice a2a a2n a2c, .slice a2d a2m a2e] a1 a2 [.bool b1.1.1, .slice b1a b1n b1c, .slice b1d b1m b1e, .bool b2.1.1, .slice b2a b2n b2c, .slice b2d b2m b2e] b1 b2 [.bool c1.1.1, .slice c1a c1n c1c, .slice c1d c1m c1e, .bool c2.1.1, .slice c2a c2n c2c, .slice c2d c2m c2e] c1 c2 [.bool d1.1.1, .slice d1a d1n d1c, .slice d1d d1m d1e, .bool d2.1.1, .slice d2a d2n d2c, .slice d2d d2m d2e] d1 d2 _ (Ty.at_more HV0.out mC) HW0.out (Ty.at_more HV1.out mC) HW1.out (Ty.at_more HV2.out mC) HW2.out (Ty.at_more HV3.out mC) HW3.out Ka1.out Ka2.out Kb1.out Kb2.out Kc1.out Kc2.out Kd1.out Kd2.out).mono ?_); rintro e w2 ⟨rfl, hb2⟩; rw [KM.out]; have HX2 := More.trans HX (show More _ w2 from mC); have HB2 := HB _ HX2; have hz2 := More.size HX2; (try simp at hz2); have hb2 := hb2))
  go_ret
  exact ⟨rfl, mC⟩
end Go.Proofs.Ytkhcblheekfdmaa
