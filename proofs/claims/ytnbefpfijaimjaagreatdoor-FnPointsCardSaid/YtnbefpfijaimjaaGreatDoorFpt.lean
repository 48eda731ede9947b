/- Points that are valid: as texts, their side, their middle, moved: the program's. -/
import Derived.Test.YtnbefpfijaimjaaGreatDoorGPnt
import Derived.Test.YtnbefpfijaimjaaGreatDoorPor
import Derived.Test.YtnbefpfijaimjaaGreatDoorSid
import Derived.Test.YtnbefpfijaimjaaGreatDoorPgl
import Derived.Test.YtnbefpfijaimjaaGreatDoorGStf
namespace Go.Proofs.YtnbefpfijaimjaaGreatDoor
open Go.RowKit
theorem frInt_sg (n : Int) : decide ((frInt n).1 < 0) = decide (n < 0) := rfl
theorem frOf_gd {x : QR} (h : ratOkB x = true) : Good (frOf x) := (frOf_vd x).good (by have := ratOk_frOf x; rw [h] at this; simpa using this.symm)
theorem impl_formatRatR (x : QR) (b : Bool) (u v : Value) (w : World) (k : ratOkB x = true) (hv : tRat.at w [.bool b, u, v] x) (ht : PowTab w) :
    Calls Tryz.prog 32 #[.agg #[.bool b, u, v]] w fun e w' => e = .returned (.string (sB (fR (frOf x)))) ∧ More w w' := by
  obtain ⟨hs, ha⟩ := frOf_at hv k
  subst hs
  exact impl_formatRat (frOf x) u v w (frOf_gd k) (RatAt.out ha) ht
theorem fR_len {f : Fr} (h : Good f) : (fR f).length ≤ 1300 := by
  have HL1 : (limbs f.1.natAbs).length ≤ 24 := h.vd.sm1
  have HL2 : (limbs f.2).length ≤ 24 := h.vd.sm2
  have HF1 := fBig_len (x := encZ f.1) (limbs_isL _) (Nat.le_trans HL1 (by decide))
  have HF2 := fN_len (limbs_isL f.2) (Nat.le_trans HL2 (by decide))
  unfold fR
  split
  · omega
  · simp; omega
set_option maxRecDepth 8000 in
set_option maxHeartbeats 12800000 in
theorem impl_FormatPoint (cs0 : List Value) (p1 p2 : QR) (w : World) (hv0 : tPoint.at w cs0 (p1, p2)) (hw0 : wPoint (p1, p2) ≤ 1048576) (k0 : pointB (p1, p2) = true) (ht : PowTab w) :
    Calls Tryz.prog 12 #[.agg cs0.toArray] w fun e w' => e = .returned (.string (sB (fR (frOf p1) ++ 44 :: fR (frOf p2)))) ∧ More w w' := by
  obtain ⟨k0, d0, rfl, f0, e0⟩ := at_prod hv0
  have f1 := e0; clear e0
  have f0 : tRat.at w _ p1 := f0
  obtain ⟨p1a, p1n, p1c, p1d, p1m, p1e, rfl⟩ := sh_Rat f0
  have Hp1 := Lib.hid f0; clear f0
  try clear f0
  have Wp1 : Hid (wRat p1 ≤ 1048576) := Lib.hid (by have h := hw0; unfold wPoint at h; dsimp only at h; omega)
  have f1 : tRat.at w _ p2 := f1
  obtain ⟨p2a, p2n, p2c, p2d, p2m, p2e, rfl⟩ := sh_Rat f1
  have Hp2 := Lib.hid f1; clear f1
  try clear f1
  have Wp2 : Hid (wRat p2 ≤ 1048576) := Lib.hid (by have h := hw0; unfold wPoint at h; dsimp only at h; omega)
  try clear e0 e1
  have HV0 : Hid (tPoint.at w [.bool p1.1.1, .slice p1a p1n p1c, .slice p1d p1m p1e, .bool p2.1.1, .slice p2a p2n p2c, .slice p2d p2m p2e] (p1, p2)) := Lib.hid hv0; have HW0 := Lib.hid hw0; clear hv0 hw0
  have Kp1 := Lib.hid (pointB_parts k0).1; have Kp2 := Lib.hid (pointB_parts k0).2; have KP0 := Lib.hid k0
  have KA : Hid ([((p1, p2) : QP)].all pointB = true) := Lib.hid (by simp only [List.all_cons, List.all_nil, Bool.and_true]; exact k0)
  clear k0
  have HT := Lib.hid ht; clear ht
  show Calls Tryz.prog 12 #[.agg #[.bool p1.1.1, .slice p1a p1n p1c, .slice p1d p1m p1e, .bool p2.1.1, .slice p2a p2n p2c, .slice p2d p2m p2e]] w _
  have HF1 : Hid ((fR (frOf p1)).length ≤ 1300) := Lib.hid (fR_len (frOf_gd Kp1.out))
  have HF2 : Hid ((fR (frOf p2)).length ≤ 1300) := Lib.hid (fR_len (frOf_gd Kp2.out))
  have hadd1 : ∀ w, (Op.stringOp .add (sB (fR (frOf p1))) ⟨#[44]⟩).run Tryz.prog w = .ok (.string (sB (fR (frOf p1) ++ [44]))) w := fun w => add_run _ _ [44] w (by have := HF1.out; simp; omega)
  have hadd2 : ∀ w, (Op.stringOp .add (sB (fR (frOf p1) ++ [44])) (sB (fR (frOf p2)))).run Tryz.prog w = .ok (.string (sB (fR (frOf p1) ++ [44] ++ fR (frOf p2)))) w := fun w => add_run _ _ _ w (by have := HF1.out; have := HF2.out; simp; omega)
  have HX := More.refl (w.alloc (.cells #[.bool p1.1.1, .slice p1a p1n p1c, .slice p1d p1m p1e, .bool p2.1.1, .slice p2a p2n p2c, .slice p2d p2m p2e] 28))
  have HB := fun (w' : World) (h : More (w.alloc (.cells #[.bool p1.1.1, .slice p1a p1n p1c, .slice p1d p1m p1e, .bool p2.1.1, .slice p2a p2n p2c, .slice p2d p2m p2e] 28)) w') => bx6 (w.heap.size) (by simp) h
  have HC := fun (w' : World) (h : Turns [] _ w') => HB w' (Turns.more h)
  go_enter Tryz.func12, Tryz.ntmps12
  go_wp2_with (first | (go_at_call 31; refine (impl_arePoints _ [(p1, p2)] _ (lit_at (S := tPoint) (n := 1) [([.bool p1.1.1, .slice p1a p1n p1c, .slice p1d p1m p1e, .bool p2.1.1, .slice p2a p2n p2c, .slice p2d p2m p2e], (p1, p2))] (by simp) rfl rfl (by decide) (by rintro p hp; simp only [List.mem_cons, List.not_mem_nil, or_false] at hp; rcases hp with rfl <;> first | exact ⟨rfl, (Ty.at_more HV0.out mC)⟩) : (tSlice tPoint).at _ [_] [(p1, p2)]) (by refine ⟨by simp, ?_⟩; intro x hx; simp only [List.mem_cons, List.not_mem_nil, or_false] at hx; rcases hx with rfl <;> first | exact HW0.out)).mono ?_; rintro e w1 ⟨rfl, hb1⟩; have HX1 := More.trans HX (show More _ w1 from mC); have HB1 := HB _ HX1; have hz1 := More.size HX1; (try simp at hz1); have hb1 := hb1; rw [KA.out]))
  go_region_held3 (fun w' => Turns [] (w.alloc (.cells #[.bool p1.1.1, .slice p1a p1n p1c, .slice p1d p1m p1e, .bool p2.1.1, .slice p2a p2n p2c, .slice p2d p2m p2e] 28)) w') (first | exact tC | exact mC2) (first | (go_at_call 32; (with_reducible refine (impl_formatRatR p1 _ (.slice p1a p1n p1c) (.slice p1d p1m p1e) _ Kp1.out (Ty.at_more Hp1.out mC) (HT.out.more mC)).mono ?_); rintro e w2 ⟨rfl, hb2⟩; have HX2 := More.trans HX (show More _ w2 from mC); have HB2 := HB _ HX2; have hz2 := More.size HX2; (try simp at hz2); have hb2 := hb2) | (go_at_call 32; (with_reducible refine (impl_formatRatR p2 _ (.slice p2a p2n p2c) (.slice p2d p2m p2e) _ Kp2.out (Ty.at_more Hp2.out mC) (HT.out.more mC)).mono ?_); rintro e w3 ⟨rfl, hb3⟩; have HX3 := More.trans HX (show More _ w3 from mC); have HB3 := HB _ HX3; have hz3 := More.size HX3; (try simp at hz3); have hb3 := hb3))
  all_goals
    go_wp2_with fail
    go_ret
    exact ⟨by first | rfl | (rw [List.append_assoc]; rfl), mC⟩
set_option maxRecDepth 8000 in
set_option maxHeartbeats 12800000 in
theorem impl_SideV (cs0 : List Value) (p1 p2 : QR) (cs1 : List Value) (q1 q2 : QR) (cs2 : List Value) (r1 r2 : QR) (w : World) (hv0 : tPoint.at w cs0 (p1, p2)) (hw0 : wPoint (p1, p2) ≤ 1048576) (hv1 : tPoint.at w cs1 (q1, q2)) (hw1 : wPoint (q1, q2) ≤ 1048576) (hv2 : tPoint.at w cs2 (r1, r2)) (hw2 : wPoint (r1, r2) ≤ 1048576) (k0 : pointB (p1, p2) = true) (k1 : pointB (q1, q2) = true) (k2 : pointB (r1, r2) = true) :
    Calls Tryz.prog 17 #[.agg cs0.toArray, .agg cs1.toArray, .agg cs2.toArray] w fun e w' => e = .returned (.int .i64 (sideF (p1, p2) (q1, q2) (r1, r2))) ∧ More w w' := by
  obtain ⟨k0, d0, rfl, f0, e0⟩ := at_prod hv0
  have f1 := e0; clear e0
  have f0 : tRat.at w _ p1 := f0
  obtain ⟨p1a, p1n, p1c, p1d, p1m, p1e, rfl⟩ := sh_Rat f0
  have Hp1 := Lib.hid f0; clear f0
  try clear f0
  have Wp1 : Hid (wRat p1 ≤ 1048576) := Lib.hid (by have h := hw0; unfold wPoint at h; dsimp only at h; omega)
  have f1 : tRat.at w _ p2 := f1
  obtain ⟨p2a, p2n, p2c, p2d, p2m, p2e, rfl⟩ := sh_Rat f1
  have Hp2 := Lib.hid f1; clear f1
  try clear f1
  have Wp2 : Hid (wRat p2 ≤ 1048576) := Lib.hid (by have h := hw0; unfold wPoint at h; dsimp only at h; omega)
  try clear e0 e1
  have HV0 : Hid (tPoint.at w [.bool p1.1.1, .slice p1a p1n p1c, .slice p1d p1m p1e, .bool p2.1.1, .slice p2a p2n p2c, .slice p2d p2m p2e] (p1, p2)) := Lib.hid hv0; have HW0 := Lib.hid hw0; clear hv0 hw0
  obtain ⟨k0, d0, rfl, f0, e0⟩ := at_prod hv1
  have f1 := e0; clear e0
  have f0 : tRat.at w _ q1 := f0
  obtain ⟨q1a, q1n, q1c, q1d, q1m, q1e, rfl⟩ := sh_Rat f0
  have Hq1 := Lib.hid f0; clear f0
  try clear f0
  have Wq1 : Hid (wRat q1 ≤ 1048576) := Lib.hid (by have h := hw1; unfold wPoint at h; dsimp only at h; omega)
  have f1 : tRat.at w _ q2 := f1
  obtain ⟨q2a, q2n, q2c, q2d, q2m, q2e, rfl⟩ := sh_Rat f1
  have Hq2 := Lib.hid f1; clear f1
  try clear f1
  have Wq2 : Hid (wRat q2 ≤ 1048576) := Lib.hid (by have h := hw1; unfold wPoint at h; dsimp only at h; omega)
  try clear e0 e1
  have HV1 : Hid (tPoint.at w [.bool q1.1.1, .slice q1a q1n q1c, .slice q1d q1m q1e, .bool q2.1.1, .slice q2a q2n q2c, .slice q2d q2m q2e] (q1, q2)) := Lib.hid hv1; have HW1 := Lib.hid hw1; clear hv1 hw1
  obtain ⟨k0, d0, rfl, f0, e0⟩ := at_prod hv2
  have f1 := e0; clear e0
  have f0 : tRat.at w _ r1 := f0
  obtain ⟨r1a, r1n, r1c, r1d, r1m, r1e, rfl⟩ := sh_Rat f0
  have Hr1 := Lib.hid f0; clear f0
  try clear f0
  have Wr1 : Hid (wRat r1 ≤ 1048576) := Lib.hid (by have h := hw2; unfold wPoint at h; dsimp only at h; omega)
  have f1 : tRat.at w _ r2 := f1
  obtain ⟨r2a, r2n, r2c, r2d, r2m, r2e, rfl⟩ := sh_Rat f1
  have Hr2 := Lib.hid f1; clear f1
  try clear f1
  have Wr2 : Hid (wRat r2 ≤ 1048576) := Lib.hid (by have h := hw2; unfold wPoint at h; dsimp only at h; omega)
  try clear e0 e1
  have HV2 : Hid (tPoint.at w [.bool r1.1.1, .slice r1a r1n r1c, .slice r1d r1m r1e, .bool r2.1.1, .slice r2a r2n r2c, .slice r2d r2m r2e] (r1, r2)) := Lib.hid hv2; have HW2 := Lib.hid hw2; clear hv2 hw2
  have Kp1 := Lib.hid (pointB_parts k0).1; have Kp2 := Lib.hid (pointB_parts k0).2; have KP0 := Lib.hid k0
  have Kq1 := Lib.hid (pointB_parts k1).1; have Kq2 := Lib.hid (pointB_parts k1).2; have KP1 := Lib.hid k1
  have Kr1 := Lib.hid (pointB_parts k2).1; have Kr2 := Lib.hid (pointB_parts k2).2; have KP2 := Lib.hid k2
  have KA : Hid ([((p1, p2) : QP), (q1, q2), (r1, r2)].all pointB = true) := Lib.hid (by simp only [List.all_cons, List.all_nil, Bool.and_true, Bool.and_eq_true]; exact ⟨k0, k1, k2⟩)
  clear k0 k1 k2
  show Calls Tryz.prog 17 #[.agg #[.bool p1.1.1, .slice p1a p1n p1c, .slice p1d p1m p1e, .bool p2.1.1, .slice p2a p2n p2c, .slice p2d p2m p2e], .agg #[.bool q1.1.1, .slice q1a q1n q1c, .slice q1d q1m q1e, .bool q2.1.1, .slice q2a q2n q2c, .slice q2d q2m q2e], .agg #[.bool r1.1.1, .slice r1a r1n r1c, .slice r1d r1m r1e, .bool r2.1.1, .slice r2a r2n r2c, .slice r2d r2m r2e]] w _
  have HX := More.refl (((w.alloc (.cells #[.bool p1.1.1, .slice p1a p1n p1c, .slice p1d p1m p1e, .bool p2.1.1, .slice p2a p2n p2c, .slice p2d p2m p2e] 28)).alloc (.cells #[.bool q1.1.1, .slice q1a q1n q1c, .slice q1d q1m q1e, .bool q2.1.1, .slice q2a q2n q2c, .slice q2d q2m q2e] 28)).alloc (.cells #[.bool r1.1.1, .slice r1a r1n r1c, .slice r1d r1m r1e, .bool r2.1.1, .slice r2a r2n r2c, .slice r2d r2m r2e] 28))
  have HB := fun (w' : World) (h : More (((w.alloc (.cells #[.bool p1.1.1, .slice p1a p1n p1c, .slice p1d p1m p1e, .bool p2.1.1, .slice p2a p2n p2c, .slice p2d p2m p2e] 28)).alloc (.cells #[.bool q1.1.1, .slice q1a q1n q1c, .slice q1d q1m q1e, .bool q2.1.1, .slice q2a q2n q2c, .slice q2d q2m q2e] 28)).alloc (.cells #[.bool r1.1.1, .slice r1a r1n r1c, .slice r1d r1m r1e, .bool r2.1.1, .slice r2a r2n r2c, .slice r2d r2m r2e] 28)) w') => And.intro (bx6 (w.heap.size) (by simp) (More.un (More.un h))) (And.intro (bx6 (w.heap.size + 1) (by simp) (More.un h)) (bx6 (w.heap.size + 1 + 1) (by simp) h))
  have HC := fun (w' : World) (h : Turns [] _ w') => HB w' (Turns.more h)
  go_enter Tryz.func17, Tryz.ntmps17
  go_wp2_with (first | (go_at_call 31; refine (impl_arePoints _ [(p1, p2), (q1, q2), (r1, r2)] _ (lit_at (S := tPoint) (n := 3) [([.bool p1.1.1, .slice p1a p1n p1c, .slice p1d p1m p1e, .bool p2.1.1, .slice p2a p2n p2c, .slice p2d p2m p2e], (p1, p2)), ([.bool q1.1.1, .slice q1a q1n q1c, .slice q1d q1m q1e, .bool q2.1.1, .slice q2a q2n q2c, .slice q2d q2m q2e], (q1, q2)), ([.bool r1.1.1, .slice r1a r1n r1c, .slice r1d r1m r1e, .bool r2.1.1, .slice r2a r2n r2c, .slice r2d r2m r2e], (r1, r2))] (by simp) rfl rfl (by decide) (by rintro p hp; simp only [List.mem_cons, List.not_mem_nil, or_false] at hp; rcases hp with rfl | rfl | rfl <;> first | exact ⟨rfl, (Ty.at_more HV0.out mC)⟩ | exact ⟨rfl, (Ty.at_more HV1.out mC)⟩ | exact ⟨rfl, (Ty.at_more HV2.out mC)⟩) : (tSlice tPoint).at _ [_] [(p1, p2), (q1, q2), (r1, r2)]) (by refine ⟨by simp, ?_⟩; intro x hx; simp only [List.mem_cons, List.not_mem_nil, or_false] at hx; rcases hx with rfl | rfl | rfl <;> first | exact HW0.out | exact HW1.out | exact HW2.out)).mono ?_; rintro e w1 ⟨rfl, hb1⟩; have HX1 := More.trans HX (show More _ w1 from mC); have HB1 := HB _ HX1; have hz1 := More.size HX1; (try simp at hz1); have hb1 := hb1; rw [KA.out]) | (go_at_call 37; (with_reducible refine (impl_side [.bool p1.1.1, .slice p1a p1n p1c, .slice p1d p1m p1e, .bool p2.1.1, .slice p2a p2n p2c, .slice p2d p2m p2e] p1 p2 [.bool q1.1.1, .slice q1a q1n q1c, .slice q1d q1m q1e, .bool q2.1.1, .slice q2a q2n q2c, .slice q2d q2m q2e] q1 q2 [.bool r1.1.1, .slice r1a r1n r1c, .slice r1d r1m r1e, .bool r2.1.1, .slice r2a r2n r2c, .slice r2d r2m r2e] r1 r2 _ (Ty.at_more HV0.out mC) HW0.out (Ty.at_more HV1.out mC) HW1.out (Ty.at_more HV2.out mC) HW2.out Kp1.out Kp2.out Kq1.out Kq2.out Kr1.out Kr2.out).mono ?_); rintro e w2 ⟨rfl, hb2⟩; have HX2 := More.trans HX (show More _ w2 from mC); have HB2 := HB _ HX2; have hz2 := More.size HX2; (try simp at hz2); have hb2 := hb2))
  go_ret
  exact ⟨rfl, mC⟩
set_option maxRecDepth 8000 in
set_option maxHeartbeats 12800000 in
theorem impl_middleOf (cs0 : List Value) (p1 p2 : QR) (cs1 : List Value) (q1 q2 : QR) (w : World) (hv0 : tPoint.at w cs0 (p1, p2)) (hw0 : wPoint (p1, p2) ≤ 1048576) (hv1 : tPoint.at w cs1 (q1, q2)) (hw1 : wPoint (q1, q2) ≤ 1048576) (k0 : pointB (p1, p2) = true) (k1 : pointB (q1, q2) = true) (km : pointB (midP (p1, p2) (q1, q2)) = true) :
    Calls Tryz.prog 36 #[.agg cs0.toArray, .agg cs1.toArray] w fun e w' => ∃ cs : List Value, e = .returned (.agg cs.toArray) ∧ More w w' ∧ tPoint.fresh w.heap.size w' cs (midP (p1, p2) (q1, q2)) := by
  obtain ⟨k0, d0, rfl, f0, e0⟩ := at_prod hv0
  have f1 := e0; clear e0
  have f0 : tRat.at w _ p1 := f0
  obtain ⟨p1a, p1n, p1c, p1d, p1m, p1e, rfl⟩ := sh_Rat f0
  have Hp1 := Lib.hid f0; clear f0
  try clear f0
  have Wp1 : Hid (wRat p1 ≤ 1048576) := Lib.hid (by have h := hw0; unfold wPoint at h; dsimp only at h; omega)
  have f1 : tRat.at w _ p2 := f1
  obtain ⟨p2a, p2n, p2c, p2d, p2m, p2e, rfl⟩ := sh_Rat f1
  have Hp2 := Lib.hid f1; clear f1
  try clear f1
  have Wp2 : Hid (wRat p2 ≤ 1048576) := Lib.hid (by have h := hw0; unfold wPoint at h; dsimp only at h; omega)
  try clear e0 e1
  have HV0 : Hid (tPoint.at w [.bool p1.1.1, .slice p1a p1n p1c, .slice p1d p1m p1e, .bool p2.1.1, .slice p2a p2n p2c, .slice p2d p2m p2e] (p1, p2)) := Lib.hid hv0; have HW0 := Lib.hid hw0; clear hv0 hw0
  obtain ⟨k0, d0, rfl, f0, e0⟩ := at_prod hv1
  have f1 := e0; clear e0
  have f0 : tRat.at w _ q1 := f0
  obtain ⟨q1a, q1n, q1c, q1d, q1m, q1e, rfl⟩ := sh_Rat f0
  have Hq1 := Lib.hid f0; clear f0
  try clear f0
  have Wq1 : Hid (wRat q1 ≤ 1048576) := Lib.hid (by have h := hw1; unfold wPoint at h; dsimp only at h; omega)
  have f1 : tRat.at w _ q2 := f1
  obtain ⟨q2a, q2n, q2c, q2d, q2m, q2e, rfl⟩ := sh_Rat f1
  have Hq2 := Lib.hid f1; clear f1
  try clear f1
  have Wq2 : Hid (wRat q2 ≤ 1048576) := Lib.hid (by have h := hw1; unfold wPoint at h; dsimp only at h; omega)
  try clear e0 e1
  have HV1 : Hid (tPoint.at w [.bool q1.1.1, .slice q1a q1n q1c, .slice q1d q1m q1e, .bool q2.1.1, .slice q2a q2n q2c, .slice q2d q2m q2e] (q1, q2)) := Lib.hid hv1; have HW1 := Lib.hid hw1; clear hv1 hw1
  have Kp1 := Lib.hid (pointB_parts k0).1; have Kp2 := Lib.hid (pointB_parts k0).2; have KP0 := Lib.hid k0
  have Kq1 := Lib.hid (pointB_parts k1).1; have Kq2 := Lib.hid (pointB_parts k1).2; have KP1 := Lib.hid k1
  have KA : Hid ([((p1, p2) : QP), (q1, q2)].all pointB = true) := Lib.hid (by simp only [List.all_cons, List.all_nil, Bool.and_true, Bool.and_eq_true]; exact ⟨k0, k1⟩)
  clear k0 k1
  obtain ⟨s9, a9⟩ := frOf_at Hp1.out Kp1.out; have Ap1 := Lib.hid a9; have Sp1 := Lib.hid s9; clear s9 a9
  obtain ⟨s9, a9⟩ := frOf_at Hp2.out Kp2.out; have Ap2 := Lib.hid a9; have Sp2 := Lib.hid s9; clear s9 a9
  obtain ⟨s9, a9⟩ := frOf_at Hq1.out Kq1.out; have Aq1 := Lib.hid a9; have Sq1 := Lib.hid s9; clear s9 a9
  obtain ⟨s9, a9⟩ := frOf_at Hq2.out Kq2.out; have Aq2 := Lib.hid a9; have Sq2 := Lib.hid s9; clear s9 a9
  have Vp1 := Lib.hid (frOf_vd p1)
  have Vp2 := Lib.hid (frOf_vd p2)
  have Vq1 := Lib.hid (frOf_vd q1)
  have Vq2 := Lib.hid (frOf_vd q2)
  have KY : Hid ((decide ((frHalf (frAdd (frOf p1) (frOf q1))).2 ≠ 0) && decide ((frHalf (frAdd (frOf p2) (frOf q2))).2 ≠ 0)) = true) := Lib.hid (or_ok frMul_vd frMul_vd km); clear km
  show Calls Tryz.prog 36 #[.agg #[.bool p1.1.1, .slice p1a p1n p1c, .slice p1d p1m p1e, .bool p2.1.1, .slice p2a p2n p2c, .slice p2d p2m p2e], .agg #[.bool q1.1.1, .slice q1a q1n q1c, .slice q1d q1m q1e, .bool q2.1.1, .slice q2a q2n q2c, .slice q2d q2m q2e]] w _
  have HX := More.refl (((w.alloc (.cells #[.bool p1.1.1, .slice p1a p1n p1c, .slice p1d p1m p1e, .bool p2.1.1, .slice p2a p2n p2c, .slice p2d p2m p2e] 28)).alloc (.cells #[.bool q1.1.1, .slice q1a q1n q1c, .slice q1d q1m q1e, .bool q2.1.1, .slice q2a q2n q2c, .slice q2d q2m q2e] 28)).alloc (.cells #[.bool false, .slice none 0 0, .slice none 0 0, .bool false, .slice none 0 0, .slice none 0 0] 28))
  have HC := fun (w' : World) (h : Turns [w.heap.size + 1 + 1] (((w.alloc (.cells #[.bool p1.1.1, .slice p1a p1n p1c, .slice p1d p1m p1e, .bool p2.1.1, .slice p2a p2n p2c, .slice p2d p2m p2e] 28)).alloc (.cells #[.bool q1.1.1, .slice q1a q1n q1c, .slice q1d q1m q1e, .bool q2.1.1, .slice q2a q2n q2c, .slice q2d q2m q2e] 28)).alloc (.cells #[.bool false, .slice none 0 0, .slice none 0 0, .bool false, .slice none 0 0, .slice none 0 0] 28)) w') => And.intro (bt6 (w.heap.size) (by simp) (More.un (More.un (More.refl _))) h (by simp <;> omega) (by simp <;> omega)) (bt6 (w.heap.size + 1) (by simp) (More.un (More.refl _)) h (by simp <;> omega) (by simp <;> omega))
  have HB := fun (w' : World) (h : More (((w.alloc (.cells #[.bool p1.1.1, .slice p1a p1n p1c, .slice p1d p1m p1e, .bool p2.1.1, .slice p2a p2n p2c, .slice p2d p2m p2e] 28)).alloc (.cells #[.bool q1.1.1, .slice q1a q1n q1c, .slice q1d q1m q1e, .bool q2.1.1, .slice q2a q2n q2c, .slice q2d q2m q2e] 28)).alloc (.cells #[.bool false, .slice none 0 0, .slice none 0 0, .bool false, .slice none 0 0, .slice none 0 0] 28)) w') => And.intro (bx6 (w.heap.size) (by simp) (More.un (More.un h))) (And.intro (bx6 (w.heap.size + 1) (by simp) (More.un h)) (bx6 (w.heap.size + 1 + 1) (by simp) h))
  go_enter Tryz.func36, Tryz.ntmps36
  go_wp2_with fail
  go_region_held3 (fun w' => Turns [w.heap.size + 1 + 1] (((w.alloc (.cells #[.bool p1.1.1, .slice p1a p1n p1c, .slice p1d p1m p1e, .bool p2.1.1, .slice p2a p2n p2c, .slice p2d p2m p2e] 28)).alloc (.cells #[.bool q1.1.1, .slice q1a q1n q1c, .slice q1d q1m q1e, .bool q2.1.1, .slice q2a q2n q2c, .slice q2d q2m q2e] 28)).alloc (.cells #[.bool false, .slice none 0 0, .slice none 0 0, .bool false, .slice none 0 0, .slice none 0 0] 28)) w') (first | exact tC | exact mC2) (first | (go_at_call 73; (with_reducible refine (impl_ratAddB (frOf p1) p1.1.1 (.slice p1a p1n p1c) (.slice p1d p1m p1e) (frOf q1) q1.1.1 (.slice q1a q1n q1c) (.slice q1d q1m q1e) _ Sp1.out Sq1.out (RatAt.more Ap1.out mC) Vp1.out (RatAt.more Aq1.out mC) Vq1.out).mono ?_); rintro e w1 ⟨x1, y1, rfl, hb1, f1⟩; obtain ⟨r1a, r1n, r1c, r1d, r1m, r1e, rfl, rfl⟩ := f1.at.sh; have F1 : Hid (RatFr (((w.alloc (.cells #[.bool p1.1.1, .slice p1a p1n p1c, .slice p1d p1m p1e, .bool p2.1.1, .slice p2a p2n p2c, .slice p2d p2m p2e] 28)).alloc (.cells #[.bool q1.1.1, .slice q1a q1n q1c, .slice q1d q1m q1e, .bool q2.1.1, .slice q2a q2n q2c, .slice q2d q2m q2e] 28)).alloc (.cells #[.bool false, .slice none 0 0, .slice none 0 0, .bool false, .slice none 0 0, .slice none 0 0] 28)).heap.size w1 (frAdd (frOf p1) (frOf q1)) _ _) := Lib.hid (RatFr.mono f1 (More.size mC)); have A1_ : Hid (RatAt w1 (frAdd (frOf p1) (frOf q1)) _ _) := Lib.hid f1.at; clear f1; have HX1 := More.trans HX (show More _ w1 from mC); have HB1 := HB _ HX1; have hz1 := More.size HX1; (try simp at hz1); have hb1 := hb1) | (go_at_call 72; (with_reducible refine (impl_ratHalfB (frAdd (frOf p1) (frOf q1)) _ (.slice r1a r1n r1c) (.slice r1d r1m r1e) _ rfl (RatAt.more A1_.out mC) frAdd_vd).mono ?_); rintro e w2 ⟨x2, y2, rfl, hb2, f2⟩; obtain ⟨r2a, r2n, r2c, r2d, r2m, r2e, rfl, rfl⟩ := f2.at.sh; have F2 : Hid (RatFr (((w.alloc (.cells #[.bool p1.1.1, .slice p1a p1n p1c, .slice p1d p1m p1e, .bool p2.1.1, .slice p2a p2n p2c, .slice p2d p2m p2e] 28)).alloc (.cells #[.bool q1.1.1, .slice q1a q1n q1c, .slice q1d q1m q1e, .bool q2.1.1, .slice q2a q2n q2c, .slice q2d q2m q2e] 28)).alloc (.cells #[.bool false, .slice none 0 0, .slice none 0 0, .bool false, .slice none 0 0, .slice none 0 0] 28)).heap.size w2 (frHalf (frAdd (frOf p1) (frOf q1))) _ _) := Lib.hid (RatFr.mono f2 (More.size mC)); have A2_ : Hid (RatAt w2 (frHalf (frAdd (frOf p1) (frOf q1))) _ _) := Lib.hid f2.at; have FL2 := Lib.hid f2; clear f2; have HX2 := More.trans HX (show More _ w2 from mC); have HB2 := HB _ HX2; have hz2 := More.size HX2; (try simp at hz2); have hb2 := hb2) | (go_at_call 73; (with_reducible refine (impl_ratAddB (frOf p2) p2.1.1 (.slice p2a p2n p2c) (.slice p2d p2m p2e) (frOf q2) q2.1.1 (.slice q2a q2n q2c) (.slice q2d q2m q2e) _ Sp2.out Sq2.out (RatAt.more Ap2.out mC) Vp2.out (RatAt.more Aq2.out mC) Vq2.out).mono ?_); rintro e w3 ⟨x3, y3, rfl, hb3, f3⟩; obtain ⟨r3a, r3n, r3c, r3d, r3m, r3e, rfl, rfl⟩ := f3.at.sh; have F3 : Hid (RatFr (((w.alloc (.cells #[.bool p1.1.1, .slice p1a p1n p1c, .slice p1d p1m p1e, .bool p2.1.1, .slice p2a p2n p2c, .slice p2d p2m p2e] 28)).alloc (.cells #[.bool q1.1.1, .slice q1a q1n q1c, .slice q1d q1m q1e, .bool q2.1.1, .slice q2a q2n q2c, .slice q2d q2m q2e] 28)).alloc (.cells #[.bool false, .slice none 0 0, .slice none 0 0, .bool false, .slice none 0 0, .slice none 0 0] 28)).heap.size w3 (frAdd (frOf p2) (frOf q2)) _ _) := Lib.hid (RatFr.mono f3 (More.size mC)); have A3_ : Hid (RatAt w3 (frAdd (frOf p2) (frOf q2)) _ _) := Lib.hid f3.at; clear f3; have HX3 := More.trans HX (show More _ w3 from mC); have HB3 := HB _ HX3; have hz3 := More.size HX3; (try simp at hz3); have hb3 := hb3) | (go_at_call 72; (with_reducible refine (impl_ratHalfB (frAdd (frOf p2) (frOf q2)) _ (.slice r3a r3n r3c) (.slice r3d r3m r3e) _ rfl (RatAt.more A3_.out mC) frAdd_vd).mono ?_); rintro e w4 ⟨x4, y4, rfl, hb4, f4⟩; obtain ⟨r4a, r4n, r4c, r4d, r4m, r4e, rfl, rfl⟩ := f4.at.sh; have F4 : Hid (RatFr (((w.alloc (.cells #[.bool p1.1.1, .slice p1a p1n p1c, .slice p1d p1m p1e, .bool p2.1.1, .slice p2a p2n p2c, .slice p2d p2m p2e] 28)).alloc (.cells #[.bool q1.1.1, .slice q1a q1n q1c, .slice q1d q1m q1e, .bool q2.1.1, .slice q2a q2n q2c, .slice q2d q2m q2e] 28)).alloc (.cells #[.bool false, .slice none 0 0, .slice none 0 0, .bool false, .slice none 0 0, .slice none 0 0] 28)).heap.size w4 (frHalf (frAdd (frOf p2) (frOf q2))) _ _) := Lib.hid (RatFr.mono f4 (More.size mC)); have A4_ : Hid (RatAt w4 (frHalf (frAdd (frOf p2) (frOf q2))) _ _) := Lib.hid f4.at; have FL4 := Lib.hid f4; clear f4; have HX4 := More.trans HX (show More _ w4 from mC); have HB4 := HB _ HX4; have hz4 := More.size HX4; (try simp at hz4); have hb4 := hb4) | (go_at_call 71; (with_reducible refine (impl_pointOr_yes (frHalf (frAdd (frOf p1) (frOf q1))) (frHalf (frAdd (frOf p2) (frOf q2))) _ _ (.slice r2a r2n r2c) (.slice r2d r2m r2e) (.slice r4a r4n r4c) (.slice r4d r4m r4e) _ (RatAt.more A2_.out mC) (RatAt.more A4_.out mC) KY.out).mono ?_); rintro e w5 ⟨rfl, hb5⟩; have HX5 := More.trans HX (show More _ w5 from mC); have HB5 := HB _ HX5; have hz5 := More.size HX5; (try simp at hz5); have hb5 := hb5))
  all_goals
    go_wp2_with fail
    refine bodyPost_ret (v := .agg #[.bool (decide ((frHalf (frAdd (frOf p1) (frOf q1))).1 < 0)), .slice r2a r2n r2c, .slice r2d r2m r2e, .bool (decide ((frHalf (frAdd (frOf p2) (frOf q2))).1 < 0)), .slice r4a r4n r4c, .slice r4d r4m r4e]) ?_ rfl ?_
    · simp [results, Tryz.results36, go_sem, *]
    · exact ⟨[.bool (decide ((frHalf (frAdd (frOf p1) (frOf q1))).1 < 0)), .slice r2a r2n r2c, .slice r2d r2m r2e, .bool (decide ((frHalf (frAdd (frOf p2) (frOf q2))).1 < 0)), .slice r4a r4n r4c, .slice r4d r4m r4e], rfl, mC2, by rw [show midP (p1, p2) (q1, q2) = (encR (frHalf (frAdd (frOf p1) (frOf q1))), encR (frHalf (frAdd (frOf p2) (frOf q2)))) from rfl]; exact Ty.fresh_mono (pair_fr (bs := [w.heap.size + 1 + 1]) (B := (((w.alloc (.cells #[.bool p1.1.1, .slice p1a p1n p1c, .slice p1d p1m p1e, .bool p2.1.1, .slice p2a p2n p2c, .slice p2d p2m p2e] 28)).alloc (.cells #[.bool q1.1.1, .slice q1a q1n q1c, .slice q1d q1m q1e, .bool q2.1.1, .slice q2a q2n q2c, .slice q2d q2m q2e] 28)).alloc (.cells #[.bool false, .slice none 0 0, .slice none 0 0, .bool false, .slice none 0 0, .slice none 0 0] 28)).heap.size) (c1 := [.bool (decide ((frHalf (frAdd (frOf p1) (frOf q1))).1 < 0)), .slice r2a r2n r2c, .slice r2d r2m r2e]) (Ty.fresh_mono FL2.out (by skip; have y1 := hz1; (try simp at y1); have s1 := hb1.size; (try simp at s1); have y2 := hz2; (try simp at y2); have s2 := hb2.size; (try simp at s2); have y3 := hz3; (try simp at y3); have s3 := hb3.size; (try simp at s3); have y4 := hz4; (try simp at y4); have s4 := hb4.size; (try simp at s4); (try simp) <;> omega)) (Ty.fresh_mono (S := tRat) (B' := w2.heap.size) FL4.out (by skip; have y1 := hz1; (try simp at y1); have s1 := hb1.size; (try simp at s1); have y2 := hz2; (try simp at y2); have s2 := hb2.size; (try simp at s2); have y3 := hz3; (try simp at y3); have s3 := hb3.size; (try simp at s3); have y4 := hz4; (try simp at y4); have s4 := hb4.size; (try simp at s4); (try simp) <;> omega)) tC tC (by (try simp) <;> omega) (by skip; have y1 := hz1; (try simp at y1); have s1 := hb1.size; (try simp at s1); have y2 := hz2; (try simp at y2); have s2 := hb2.size; (try simp at s2); have y3 := hz3; (try simp at y3); have s3 := hb3.size; (try simp at s3); have y4 := hz4; (try simp at y4); have s4 := hb4.size; (try simp at s4); (try simp) <;> omega)) (by (try simp) <;> omega)⟩
set_option maxRecDepth 8000 in
set_option maxHeartbeats 12800000 in
theorem impl_MiddleOfV (cs0 : List Value) (p1 p2 : QR) (cs1 : List Value) (q1 q2 : QR) (w : World) (hv0 : tPoint.at w cs0 (p1, p2)) (hw0 : wPoint (p1, p2) ≤ 1048576) (hv1 : tPoint.at w cs1 (q1, q2)) (hw1 : wPoint (q1, q2) ≤ 1048576) (k0 : pointB (p1, p2) = true) (k1 : pointB (q1, q2) = true) (km : pointB (midP (p1, p2) (q1, q2)) = true) :
    Calls Tryz.prog 15 #[.agg cs0.toArray, .agg cs1.toArray] w fun e w' => ∃ cs : List Value, e = .returned (.agg cs.toArray) ∧ More w w' ∧ tPoint.fresh w.heap.size w' cs (midP (p1, p2) (q1, q2)) := by
  obtain ⟨k0, d0, rfl, f0, e0⟩ := at_prod hv0
  have f1 := e0; clear e0
  have f0 : tRat.at w _ p1 := f0
  obtain ⟨p1a, p1n, p1c, p1d, p1m, p1e, rfl⟩ := sh_Rat f0
  have Hp1 := Lib.hid f0; clear f0
  try clear f0
  have Wp1 : Hid (wRat p1 ≤ 1048576) := Lib.hid (by have h := hw0; unfold wPoint at h; dsimp only at h; omega)
  have f1 : tRat.at w _ p2 := f1
  obtain ⟨p2a, p2n, p2c, p2d, p2m, p2e, rfl⟩ := sh_Rat f1
  have Hp2 := Lib.hid f1; clear f1
  try clear f1
  have Wp2 : Hid (wRat p2 ≤ 1048576) := Lib.hid (by have h := hw0; unfold wPoint at h; dsimp only at h; omega)
  try clear e0 e1
  have HV0 : Hid (tPoint.at w [.bool p1.1.1, .slice p1a p1n p1c, .slice p1d p1m p1e, .bool p2.1.1, .slice p2a p2n p2c, .slice p2d p2m p2e] (p1, p2)) := Lib.hid hv0; have HW0 := Lib.hid hw0; clear hv0 hw0
  obtain ⟨k0, d0, rfl, f0, e0⟩ := at_prod hv1
  have f1 := e0; clear e0
  have f0 : tRat.at w _ q1 := f0
  obtain ⟨q1a, q1n, q1c, q1d, q1m, q1e, rfl⟩ := sh_Rat f0
  have Hq1 := Lib.hid f0; clear f0
  try clear f0
  have Wq1 : Hid (wRat q1 ≤ 1048576) := Lib.hid (by have h := hw1; unfold wPoint at h; dsimp only at h; omega)
  have f1 : tRat.at w _ q2 := f1
  obtain ⟨q2a, q2n, q2c, q2d, q2m, q2e, rfl⟩ := sh_Rat f1
  have Hq2 := Lib.hid f1; clear f1
  try clear f1
  have Wq2 : Hid (wRat q2 ≤ 1048576) := Lib.hid (by have h := hw1; unfold wPoint at h; dsimp only at h; omega)
  try clear e0 e1
  have HV1 : Hid (tPoint.at w [.bool q1.1.1, .slice q1a q1n q1c, .slice q1d q1m q1e, .bool q2.1.1, .slice q2a q2n q2c, .slice q2d q2m q2e] (q1, q2)) := Lib.hid hv1; have HW1 := Lib.hid hw1; clear hv1 hw1
  have Kp1 := Lib.hid (pointB_parts k0).1; have Kp2 := Lib.hid (pointB_parts k0).2; have KP0 := Lib.hid k0
  have Kq1 := Lib.hid (pointB_parts k1).1; have Kq2 := Lib.hid (pointB_parts k1).2; have KP1 := Lib.hid k1
  have KA : Hid ([((p1, p2) : QP), (q1, q2)].all pointB = true) := Lib.hid (by simp only [List.all_cons, List.all_nil, Bool.and_true, Bool.and_eq_true]; exact ⟨k0, k1⟩)
  clear k0 k1
  have KM := Lib.hid km; clear km
  show Calls Tryz.prog 15 #[.agg #[.bool p1.1.1, .slice p1a p1n p1c, .slice p1d p1m p1e, .bool p2.1.1, .slice p2a p2n p2c, .slice p2d p2m p2e], .agg #[.bool q1.1.1, .slice q1a q1n q1c, .slice q1d q1m q1e, .bool q2.1.1, .slice q2a q2n q2c, .slice q2d q2m q2e]] w _
  obtain ⟨P9, hP9⟩ : ∃ P, P = midP (p1, p2) (q1, q2) := ⟨_, rfl⟩
  rw [← hP9]
  have HP9 := Lib.hid hP9; clear hP9
  have HX := More.refl (((w.alloc (.cells #[.bool p1.1.1, .slice p1a p1n p1c, .slice p1d p1m p1e, .bool p2.1.1, .slice p2a p2n p2c, .slice p2d p2m p2e] 28)).alloc (.cells #[.bool q1.1.1, .slice q1a q1n q1c, .slice q1d q1m q1e, .bool q2.1.1, .slice q2a q2n q2c, .slice q2d q2m q2e] 28)).alloc (.cells #[.bool false, .slice none 0 0, .slice none 0 0, .bool false, .slice none 0 0, .slice none 0 0] 28))
  have HC := fun (w' : World) (h : Turns [w.heap.size + 1 + 1] (((w.alloc (.cells #[.bool p1.1.1, .slice p1a p1n p1c, .slice p1d p1m p1e, .bool p2.1.1, .slice p2a p2n p2c, .slice p2d p2m p2e] 28)).alloc (.cells #[.bool q1.1.1, .slice q1a q1n q1c, .slice q1d q1m q1e, .bool q2.1.1, .slice q2a q2n q2c, .slice q2d q2m q2e] 28)).alloc (.cells #[.bool false, .slice none 0 0, .slice none 0 0, .bool false, .slice none 0 0, .slice none 0 0] 28)) w') => And.intro (bt6 (w.heap.size) (by simp) (More.un (More.un (More.refl _))) h (by simp <;> omega) (by simp <;> omega)) (bt6 (w.heap.size + 1) (by simp) (More.un (More.refl _)) h (by simp <;> omega) (by simp <;> omega))
  have HB := fun (w' : World) (h : More (((w.alloc (.cells #[.bool p1.1.1, .slice p1a p1n p1c, .slice p1d p1m p1e, .bool p2.1.1, .slice p2a p2n p2c, .slice p2d p2m p2e] 28)).alloc (.cells #[.bool q1.1.1, .slice q1a q1n q1c, .slice q1d q1m q1e, .bool q2.1.1, .slice q2a q2n q2c, .slice q2d q2m q2e] 28)).alloc (.cells #[.bool false, .slice none 0 0, .slice none 0 0, .bool false, .slice none 0 0, .slice none 0 0] 28)) w') => And.intro (bx6 (w.heap.size) (by simp) (More.un (More.un h))) (And.intro (bx6 (w.heap.size + 1) (by simp) (More.un h)) (bx6 (w.heap.size + 1 + 1) (by simp) h))
  go_enter Tryz.func15, Tryz.ntmps15
  go_wp2_with (first | (go_at_call 31; refine (impl_arePoints _ [(p1, p2), (q1, q2)] _ (lit_at (S := tPoint) (n := 2) [([.bool p1.1.1, .slice p1a p1n p1c, .slice p1d p1m p1e, .bool p2.1.1, .slice p2a p2n p2c, .slice p2d p2m p2e], (p1, p2)), ([.bool q1.1.1, .slice q1a q1n q1c, .slice q1d q1m q1e, .bool q2.1.1, .slice q2a q2n q2c, .slice q2d q2m q2e], (q1, q2))] (by simp) rfl rfl (by decide) (by rintro p hp; simp only [List.mem_cons, List.not_mem_nil, or_false] at hp; rcases hp with rfl | rfl <;> first | exact ⟨rfl, (Ty.at_more HV0.out mC)⟩ | exact ⟨rfl, (Ty.at_more HV1.out mC)⟩) : (tSlice tPoint).at _ [_] [(p1, p2), (q1, q2)]) (by refine ⟨by simp, ?_⟩; intro x hx; simp only [List.mem_cons, List.not_mem_nil, or_false] at hx; rcases hx with rfl | rfl <;> first | exact HW0.out | exact HW1.out)).mono ?_; rintro e w1 ⟨rfl, hb1⟩; have HX1 := More.trans HX (show More _ w1 from mC); have HB1 := HB _ HX1; have hz1 := More.size HX1; (try simp at hz1); have hb1 := hb1; rw [KA.out]) | (go_at_call 36; (with_reducible refine (impl_middleOf [.bool p1.1.1, .slice p1a p1n p1c, .slice p1d p1m p1e, .bool p2.1.1, .slice p2a p2n p2c, .slice p2d p2m p2e] p1 p2 [.bool q1.1.1, .slice q1a q1n q1c, .slice q1d q1m q1e, .bool q2.1.1, .slice q2a q2n q2c, .slice q2d q2m q2e] q1 q2 _ (Ty.at_more HV0.out mC) HW0.out (Ty.at_more HV1.out mC) HW1.out KP0.out KP1.out KM.out).mono ?_); rintro e w2 ⟨cs9, rfl, hb2, f2⟩; rw [← HP9.out] at f2; obtain ⟨r3a, r3n, r3c, r3d, r3m, r3e, r4a, r4n, r4c, r4d, r4m, r4e, rfl⟩ := sh_Point (Ty.fresh_at f2); have F2 := Lib.hid f2; clear f2; have HX2 := More.trans HX (show More _ w2 from mC); have HB2 := HB _ HX2; have hz2 := More.size HX2; (try simp at hz2); have hb2 := hb2))
  refine bodyPost_ret (v := .agg #[.bool P9.1.1.1, .slice r3a r3n r3c, .slice r3d r3m r3e, .bool P9.2.1.1, .slice r4a r4n r4c, .slice r4d r4m r4e]) ?_ rfl ?_
  · simp [results, Tryz.results15, go_sem, *]
  · exact ⟨[.bool P9.1.1.1, .slice r3a r3n r3c, .slice r3d r3m r3e, .bool P9.2.1.1, .slice r4a r4n r4c, .slice r4d r4m r4e], rfl, mC2, Ty.fresh_mono (Ty.fresh_turns (bs := [w.heap.size + 1 + 1]) (Ty.fresh_mono F2.out (More.size (show More (((w.alloc (.cells #[.bool p1.1.1, .slice p1a p1n p1c, .slice p1d p1m p1e, .bool p2.1.1, .slice p2a p2n p2c, .slice p2d p2m p2e] 28)).alloc (.cells #[.bool q1.1.1, .slice q1a q1n q1c, .slice q1d q1m q1e, .bool q2.1.1, .slice q2a q2n q2c, .slice q2d q2m q2e] 28)).alloc (.cells #[.bool false, .slice none 0 0, .slice none 0 0, .bool false, .slice none 0 0, .slice none 0 0] 28)) _ from mC))) tC (by simp)) (by simp; try omega)⟩
set_option maxRecDepth 8000 in
set_option maxHeartbeats 12800000 in
theorem impl_movePoint (cs0 : List Value) (p1 p2 : QR) (x y : Int) (w : World) (hv0 : tPoint.at w cs0 (p1, p2)) (hw0 : wPoint (p1, p2) ≤ 1048576) (k0 : pointB (p1, p2) = true) (ix : In64 x) (iy : In64 y) (km : pointB (mvF (p1, p2) x y) = true) :
    Calls Tryz.prog 40 #[.agg cs0.toArray, .agg #[.int .i64 x, .int .i64 y]] w fun e w' => ∃ cs : List Value, e = .returned (.agg cs.toArray) ∧ More w w' ∧ tPoint.fresh w.heap.size w' cs (mvF (p1, p2) x y) := by
  obtain ⟨k0, d0, rfl, f0, e0⟩ := at_prod hv0
  have f1 := e0; clear e0
  have f0 : tRat.at w _ p1 := f0
  obtain ⟨p1a, p1n, p1c, p1d, p1m, p1e, rfl⟩ := sh_Rat f0
  have Hp1 := Lib.hid f0; clear f0
  try clear f0
  have Wp1 : Hid (wRat p1 ≤ 1048576) := Lib.hid (by have h := hw0; unfold wPoint at h; dsimp only at h; omega)
  have f1 : tRat.at w _ p2 := f1
  obtain ⟨p2a, p2n, p2c, p2d, p2m, p2e, rfl⟩ := sh_Rat f1
  have Hp2 := Lib.hid f1; clear f1
  try clear f1
  have Wp2 : Hid (wRat p2 ≤ 1048576) := Lib.hid (by have h := hw0; unfold wPoint at h; dsimp only at h; omega)
  try clear e0 e1
  have HV0 : Hid (tPoint.at w [.bool p1.1.1, .slice p1a p1n p1c, .slice p1d p1m p1e, .bool p2.1.1, .slice p2a p2n p2c, .slice p2d p2m p2e] (p1, p2)) := Lib.hid hv0; have HW0 := Lib.hid hw0; clear hv0 hw0
  have Kp1 := Lib.hid (pointB_parts k0).1; have Kp2 := Lib.hid (pointB_parts k0).2; have KP0 := Lib.hid k0
  have KA : Hid ([((p1, p2) : QP)].all pointB = true) := Lib.hid (by simp only [List.all_cons, List.all_nil, Bool.and_true]; exact k0)
  clear k0
  obtain ⟨s9, a9⟩ := frOf_at Hp1.out Kp1.out; have Ap1 := Lib.hid a9; have Sp1 := Lib.hid s9; clear s9 a9
  obtain ⟨s9, a9⟩ := frOf_at Hp2.out Kp2.out; have Ap2 := Lib.hid a9; have Sp2 := Lib.hid s9; clear s9 a9
  have Vp1 := Lib.hid (frOf_vd p1)
  have Vp2 := Lib.hid (frOf_vd p2)
  have Ix := Lib.hid ix; have Iy := Lib.hid iy; clear ix iy
  have KY : Hid ((decide ((frAdd (frOf p1) (frInt x)).2 ≠ 0) && decide ((frAdd (frOf p2) (frInt y)).2 ≠ 0)) = true) := Lib.hid (or_ok frAdd_vd frAdd_vd km); clear km
  show Calls Tryz.prog 40 #[.agg #[.bool p1.1.1, .slice p1a p1n p1c, .slice p1d p1m p1e, .bool p2.1.1, .slice p2a p2n p2c, .slice p2d p2m p2e], .agg #[.int .i64 x, .int .i64 y]] w _
  have HX := More.refl (((w.alloc (.cells #[.bool p1.1.1, .slice p1a p1n p1c, .slice p1d p1m p1e, .bool p2.1.1, .slice p2a p2n p2c, .slice p2d p2m p2e] 28)).alloc (.cells #[.int .i64 x, .int .i64 y] 37)).alloc (.cells #[.bool false, .slice none 0 0, .slice none 0 0, .bool false, .slice none 0 0, .slice none 0 0] 28))
  have HC := fun (w' : World) (h : Turns [w.heap.size + 1 + 1] (((w.alloc (.cells #[.bool p1.1.1, .slice p1a p1n p1c, .slice p1d p1m p1e, .bool p2.1.1, .slice p2a p2n p2c, .slice p2d p2m p2e] 28)).alloc (.cells #[.int .i64 x, .int .i64 y] 37)).alloc (.cells #[.bool false, .slice none 0 0, .slice none 0 0, .bool false, .slice none 0 0, .slice none 0 0] 28)) w') => And.intro (bt6 (w.heap.size) (by simp) (More.un (More.un (More.refl _))) h (by simp <;> omega) (by simp <;> omega)) (bt2 (w.heap.size + 1) (by simp) (More.un (More.refl _)) h (by simp <;> omega) (by simp <;> omega))
  have HB := fun (w' : World) (h : More (((w.alloc (.cells #[.bool p1.1.1, .slice p1a p1n p1c, .slice p1d p1m p1e, .bool p2.1.1, .slice p2a p2n p2c, .slice p2d p2m p2e] 28)).alloc (.cells #[.int .i64 x, .int .i64 y] 37)).alloc (.cells #[.bool false, .slice none 0 0, .slice none 0 0, .bool false, .slice none 0 0, .slice none 0 0] 28)) w') => And.intro (bx6 (w.heap.size) (by simp) (More.un (More.un h))) (And.intro (bx2 (w.heap.size + 1) (by simp) (More.un h)) (bx6 (w.heap.size + 1 + 1) (by simp) h))
  go_enter Tryz.func40, Tryz.ntmps40
  go_wp2_with fail
  go_region_held3 (fun w' => Turns [w.heap.size + 1 + 1] (((w.alloc (.cells #[.bool p1.1.1, .slice p1a p1n p1c, .slice p1d p1m p1e, .bool p2.1.1, .slice p2a p2n p2c, .slice p2d p2m p2e] 28)).alloc (.cells #[.int .i64 x, .int .i64 y] 37)).alloc (.cells #[.bool false, .slice none 0 0, .slice none 0 0, .bool false, .slice none 0 0, .slice none 0 0] 28)) w') (first | exact tC | exact mC2) (first | (go_at_call 77; (with_reducible refine (impl_ratInt x _ Ix.out).mono ?_); rintro e w1 ⟨u1, v1, rfl, hb1, g1⟩; obtain ⟨r1a, r1n, r1c, rfl⟩ := sh1 g1.1; obtain ⟨r1d, r1m, r1e, rfl⟩ := sh1 g1.2; have A1_ := Lib.hid g1; clear g1; have HX1 := More.trans HX (show More _ w1 from mC); have HB1 := HB _ HX1; have hz1 := More.size HX1; (try simp at hz1); have hb1 := hb1) | (go_at_call 73; (with_reducible refine (impl_ratAddB (frOf p1) p1.1.1 (.slice p1a p1n p1c) (.slice p1d p1m p1e) (frInt x) _ (.slice r1a r1n r1c) (.slice r1d r1m r1e) _ Sp1.out (frInt_sg x) (RatAt.more Ap1.out mC) Vp1.out (RatAt.more A1_.out mC) (frInt_vd Ix.out)).mono ?_); rintro e w2 ⟨x2, y2, rfl, hb2, f2⟩; obtain ⟨r2a, r2n, r2c, r2d, r2m, r2e, rfl, rfl⟩ := f2.at.sh; have F2 : Hid (RatFr (((w.alloc (.cells #[.bool p1.1.1, .slice p1a p1n p1c, .slice p1d p1m p1e, .bool p2.1.1, .slice p2a p2n p2c, .slice p2d p2m p2e] 28)).alloc (.cells #[.int .i64 x, .int .i64 y] 37)).alloc (.cells #[.bool false, .slice none 0 0, .slice none 0 0, .bool false, .slice none 0 0, .slice none 0 0] 28)).heap.size w2 (frAdd (frOf p1) (frInt x)) _ _) := Lib.hid (RatFr.mono f2 (More.size mC)); have A2_ : Hid (RatAt w2 (frAdd (frOf p1) (frInt x)) _ _) := Lib.hid f2.at; have FL2 := Lib.hid f2; clear f2; have HX2 := More.trans HX (show More _ w2 from mC); have HB2 := HB _ HX2; have hz2 := More.size HX2; (try simp at hz2); have hb2 := hb2) | (go_at_call 77; (with_reducible refine (impl_ratInt y _ Iy.out).mono ?_); rintro e w3 ⟨u3, v3, rfl, hb3, g3⟩; obtain ⟨r3a, r3n, r3c, rfl⟩ := sh1 g3.1; obtain ⟨r3d, r3m, r3e, rfl⟩ := sh1 g3.2; have A3_ := Lib.hid g3; clear g3; have HX3 := More.trans HX (show More _ w3 from mC); have HB3 := HB _ HX3; have hz3 := More.size HX3; (try simp at hz3); have hb3 := hb3) | (go_at_call 73; (with_reducible refine (impl_ratAddB (frOf p2) p2.1.1 (.slice p2a p2n p2c) (.slice p2d p2m p2e) (frInt y) _ (.slice r3a r3n r3c) (.slice r3d r3m r3e) _ Sp2.out (frInt_sg y) (RatAt.more Ap2.out mC) Vp2.out (RatAt.more A3_.out mC) (frInt_vd Iy.out)).mono ?_); rintro e w4 ⟨x4, y4, rfl, hb4, f4⟩; obtain ⟨r4a, r4n, r4c, r4d, r4m, r4e, rfl, rfl⟩ := f4.at.sh; have F4 : Hid (RatFr (((w.alloc (.cells #[.bool p1.1.1, .slice p1a p1n p1c, .slice p1d p1m p1e, .bool p2.1.1, .slice p2a p2n p2c, .slice p2d p2m p2e] 28)).alloc (.cells #[.int .i64 x, .int .i64 y] 37)).alloc (.cells #[.bool false, .slice none 0 0, .slice none 0 0, .bool false, .slice none 0 0, .slice none 0 0] 28)).heap.size w4 (frAdd (frOf p2) (frInt y)) _ _) := Lib.hid (RatFr.mono f4 (More.size mC)); have A4_ : Hid (RatAt w4 (frAdd (frOf p2) (frInt y)) _ _) := Lib.hid f4.at; have FL4 := Lib.hid f4; clear f4; have HX4 := More.trans HX (show More _ w4 from mC); have HB4 := HB _ HX4; have hz4 := More.size HX4; (try simp at hz4); have hb4 := hb4) | (go_at_call 71; (with_reducible refine (impl_pointOr_yes (frAdd (frOf p1) (frInt x)) (frAdd (frOf p2) (frInt y)) _ _ (.slice r2a r2n r2c) (.slice r2d r2m r2e) (.slice r4a r4n r4c) (.slice r4d r4m r4e) _ (RatAt.more A2_.out mC) (RatAt.more A4_.out mC) KY.out).mono ?_); rintro e w5 ⟨rfl, hb5⟩; have HX5 := More.trans HX (show More _ w5 from mC); have HB5 := HB _ HX5; have hz5 := More.size HX5; (try simp at hz5); have hb5 := hb5))
  all_goals
    go_wp2_with fail
    refine bodyPost_ret (v := .agg #[.bool (decide ((frAdd (frOf p1) (frInt x)).1 < 0)), .slice r2a r2n r2c, .slice r2d r2m r2e, .bool (decide ((frAdd (frOf p2) (frInt y)).1 < 0)), .slice r4a r4n r4c, .slice r4d r4m r4e]) ?_ rfl ?_
    · simp [results, Tryz.results40, go_sem, *]
    · exact ⟨[.bool (decide ((frAdd (frOf p1) (frInt x)).1 < 0)), .slice r2a r2n r2c, .slice r2d r2m r2e, .bool (decide ((frAdd (frOf p2) (frInt y)).1 < 0)), .slice r4a r4n r4c, .slice r4d r4m r4e], rfl, mC2, by rw [show mvF (p1, p2) x y = (encR (frAdd (frOf p1) (frInt x)), encR (frAdd (frOf p2) (frInt y))) from rfl]; exact Ty.fresh_mono (pair_fr (bs := [w.heap.size + 1 + 1]) (B := (((w.alloc (.cells #[.bool p1.1.1, .slice p1a p1n p1c, .slice p1d p1m p1e, .bool p2.1.1, .slice p2a p2n p2c, .slice p2d p2m p2e] 28)).alloc (.cells #[.int .i64 x, .int .i64 y] 37)).alloc (.cells #[.bool false, .slice none 0 0, .slice none 0 0, .bool false, .slice none 0 0, .slice none 0 0] 28)).heap.size) (c1 := [.bool (decide ((frAdd (frOf p1) (frInt x)).1 < 0)), .slice r2a r2n r2c, .slice r2d r2m r2e]) (Ty.fresh_mono FL2.out (by skip; have y1 := hz1; (try simp at y1); have s1 := hb1.size; (try simp at s1); have y2 := hz2; (try simp at y2); have s2 := hb2.size; (try simp at s2); have y3 := hz3; (try simp at y3); have s3 := hb3.size; (try simp at s3); have y4 := hz4; (try simp at y4); have s4 := hb4.size; (try simp at s4); (try simp) <;> omega)) (Ty.fresh_mono (S := tRat) (B' := w2.heap.size) FL4.out (by skip; have y1 := hz1; (try simp at y1); have s1 := hb1.size; (try simp at s1); have y2 := hz2; (try simp at y2); have s2 := hb2.size; (try simp at s2); have y3 := hz3; (try simp at y3); have s3 := hb3.size; (try simp at s3); have y4 := hz4; (try simp at y4); have s4 := hb4.size; (try simp at s4); (try simp) <;> omega)) tC tC (by (try simp) <;> omega) (by skip; have y1 := hz1; (try simp at y1); have s1 := hb1.size; (try simp at s1); have y2 := hz2; (try simp at y2); have s2 := hb2.size; (try simp at s2); have y3 := hz3; (try simp at y3); have s3 := hb3.size; (try simp at s3); have y4 := hz4; (try simp at y4); have s4 := hb4.size; (try simp at s4); (try simp) <;> omega)) (by (try simp) <;> omega)⟩
set_option maxRecDepth 8000 in
set_option maxHeartbeats 12800000 in
theorem impl_MovePointV (cs0 : List Value) (p1 p2 : QR) (x y : Int) (w : World) (hv0 : tPoint.at w cs0 (p1, p2)) (hw0 : wPoint (p1, p2) ≤ 1048576) (k0 : pointB (p1, p2) = true) (ix : In64 x) (iy : In64 y) (km : pointB (mvF (p1, p2) x y) = true) :
    Calls Tryz.prog 20 #[.agg cs0.toArray, .agg #[.int .i64 x, .int .i64 y]] w fun e w' => ∃ cs : List Value, e = .returned (.agg cs.toArray) ∧ More w w' ∧ tPoint.fresh w.heap.size w' cs (mvF (p1, p2) x y) := by
  obtain ⟨k0, d0, rfl, f0, e0⟩ := at_prod hv0
  have f1 := e0; clear e0
  have f0 : tRat.at w _ p1 := f0
  obtain ⟨p1a, p1n, p1c, p1d, p1m, p1e, rfl⟩ := sh_Rat f0
  have Hp1 := Lib.hid f0; clear f0
  try clear f0
  have Wp1 : Hid (wRat p1 ≤ 1048576) := Lib.hid (by have h := hw0; unfold wPoint at h; dsimp only at h; omega)
  have f1 : tRat.at w _ p2 := f1
  obtain ⟨p2a, p2n, p2c, p2d, p2m, p2e, rfl⟩ := sh_Rat f1
  have Hp2 := Lib.hid f1; clear f1
  try clear f1
  have Wp2 : Hid (wRat p2 ≤ 1048576) := Lib.hid (by have h := hw0; unfold wPoint at h; dsimp only at h; omega)
  try clear e0 e1
  have HV0 : Hid (tPoint.at w [.bool p1.1.1, .slice p1a p1n p1c, .slice p1d p1m p1e, .bool p2.1.1, .slice p2a p2n p2c, .slice p2d p2m p2e] (p1, p2)) := Lib.hid hv0; have HW0 := Lib.hid hw0; clear hv0 hw0
  have Kp1 := Lib.hid (pointB_parts k0).1; have Kp2 := Lib.hid (pointB_parts k0).2; have KP0 := Lib.hid k0
  have KA : Hid ([((p1, p2) : QP)].all pointB = true) := Lib.hid (by simp only [List.all_cons, List.all_nil, Bool.and_true]; exact k0)
  clear k0
  have KM := Lib.hid km; have Ix := Lib.hid ix; have Iy := Lib.hid iy; clear km ix iy
  show Calls Tryz.prog 20 #[.agg #[.bool p1.1.1, .slice p1a p1n p1c, .slice p1d p1m p1e, .bool p2.1.1, .slice p2a p2n p2c, .slice p2d p2m p2e], .agg #[.int .i64 x, .int .i64 y]] w _
  obtain ⟨P9, hP9⟩ : ∃ P, P = mvF (p1, p2) x y := ⟨_, rfl⟩
  rw [← hP9]
  have HP9 := Lib.hid hP9; clear hP9
  have HX := More.refl (((w.alloc (.cells #[.bool p1.1.1, .slice p1a p1n p1c, .slice p1d p1m p1e, .bool p2.1.1, .slice p2a p2n p2c, .slice p2d p2m p2e] 28)).alloc (.cells #[.int .i64 x, .int .i64 y] 37)).alloc (.cells #[.bool false, .slice none 0 0, .slice none 0 0, .bool false, .slice none 0 0, .slice none 0 0] 28))
  have HC := fun (w' : World) (h : Turns [w.heap.size + 1 + 1] (((w.alloc (.cells #[.bool p1.1.1, .slice p1a p1n p1c, .slice p1d p1m p1e, .bool p2.1.1, .slice p2a p2n p2c, .slice p2d p2m p2e] 28)).alloc (.cells #[.int .i64 x, .int .i64 y] 37)).alloc (.cells #[.bool false, .slice none 0 0, .slice none 0 0, .bool false, .slice none 0 0, .slice none 0 0] 28)) w') => And.intro (bt6 (w.heap.size) (by simp) (More.un (More.un (More.refl _))) h (by simp <;> omega) (by simp <;> omega)) (bt2 (w.heap.size + 1) (by simp) (More.un (More.refl _)) h (by simp <;> omega) (by simp <;> omega))
  have HB := fun (w' : World) (h : More (((w.alloc (.cells #[.bool p1.1.1, .slice p1a p1n p1c, .slice p1d p1m p1e, .bool p2.1.1, .slice p2a p2n p2c, .slice p2d p2m p2e] 28)).alloc (.cells #[.int .i64 x, .int .i64 y] 37)).alloc (.cells #[.bool false, .slice none 0 0, .slice none 0 0, .bool false, .slice none 0 0, .slice none 0 0] 28)) w') => And.intro (bx6 (w.heap.size) (by simp) (More.un (More.un h))) (And.intro (bx2 (w.heap.size + 1) (by simp) (More.un h)) (bx6 (w.heap.size + 1 + 1) (by simp) h))
  go_enter Tryz.func20, Tryz.ntmps20
  go_wp2_with (first | (go_at_call 31; refine (impl_arePoints _ [(p1, p2)] _ (lit_at (S := tPoint) (n := 1) [([.bool p1.1.1, .slice p1a p1n p1c, .slice p1d p1m p1e, .bool p2.1.1, .slice p2a p2n p2c, .slice p2d p2m p2e], (p1, p2))] (by simp) rfl rfl (by decide) (by rintro p hp; simp only [List.mem_cons, List.not_mem_nil, or_false] at hp; rcases hp with rfl <;> first | exact ⟨rfl, (Ty.at_more HV0.out mC)⟩) : (tSlice tPoint).at _ [_] [(p1, p2)]) (by refine ⟨by simp, ?_⟩; intro x hx; simp only [List.mem_cons, List.not_mem_nil, or_false] at hx; rcases hx with rfl <;> first | exact HW0.out)).mono ?_; rintro e w1 ⟨rfl, hb1⟩; have HX1 := More.trans HX (show More _ w1 from mC); have HB1 := HB _ HX1; have hz1 := More.size HX1; (try simp at hz1); have hb1 := hb1; rw [KA.out]) | (go_at_call 40; (with_reducible refine (impl_movePoint [.bool p1.1.1, .slice p1a p1n p1c, .slice p1d p1m p1e, .bool p2.1.1, .slice p2a p2n p2c, .slice p2d p2m p2e] p1 p2 x y _ (Ty.at_more HV0.out mC) HW0.out KP0.out Ix.out Iy.out KM.out).mono ?_); rintro e w2 ⟨cs9, rfl, hb2, f2⟩; rw [← HP9.out] at f2; obtain ⟨r3a, r3n, r3c, r3d, r3m, r3e, r4a, r4n, r4c, r4d, r4m, r4e, rfl⟩ := sh_Point (Ty.fresh_at f2); have F2 := Lib.hid f2; clear f2; have HX2 := More.trans HX (show More _ w2 from mC); have HB2 := HB _ HX2; have hz2 := More.size HX2; (try simp at hz2); have hb2 := hb2))
  refine bodyPost_ret (v := .agg #[.bool P9.1.1.1, .slice r3a r3n r3c, .slice r3d r3m r3e, .bool P9.2.1.1, .slice r4a r4n r4c, .slice r4d r4m r4e]) ?_ rfl ?_
  · simp [results, Tryz.results20, go_sem, *]
  · exact ⟨[.bool P9.1.1.1, .slice r3a r3n r3c, .slice r3d r3m r3e, .bool P9.2.1.1, .slice r4a r4n r4c, .slice r4d r4m r4e], rfl, mC2, Ty.fresh_mono (Ty.fresh_turns (bs := [w.heap.size + 1 + 1]) (Ty.fresh_mono F2.out (More.size (show More (((w.alloc (.cells #[.bool p1.1.1, .slice p1a p1n p1c, .slice p1d p1m p1e, .bool p2.1.1, .slice p2a p2n p2c, .slice p2d p2m p2e] 28)).alloc (.cells #[.int .i64 x, .int .i64 y] 37)).alloc (.cells #[.bool false, .slice none 0 0, .slice none 0 0, .bool false, .slice none 0 0, .slice none 0 0] 28)) _ from mC))) tC (by simp)) (by simp; try omega)⟩
end Go.Proofs.YtnbefpfijaimjaaGreatDoor
