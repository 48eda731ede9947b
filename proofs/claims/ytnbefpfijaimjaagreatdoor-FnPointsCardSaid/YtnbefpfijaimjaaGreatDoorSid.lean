/- The side of a line on which a point lies. -/
import Derived.Test.YtnbefpfijaimjaaGreatDoorGPnt
import Derived.Test.YtnbefpfijaimjaaGreatDoorGSra
import Derived.Test.YtnbefpfijaimjaaGreatDoorGRt
namespace Go.Proofs.YtnbefpfijaimjaaGreatDoor
open Go.RowKit
noncomputable def sideF (a b c : QP) : Int := frSign (frSub (frMul (frSub (frOf b.1) (frOf a.1)) (frSub (frOf c.2) (frOf a.2))) (frMul (frSub (frOf b.2) (frOf a.2)) (frSub (frOf c.1) (frOf a.1))))
theorem frSign_range (f : Fr) : -1 ≤ frSign f ∧ frSign f ≤ 1 := by
  unfold frSign cmpI
  split
  · omega
  split
  · omega
  split <;> omega
set_option maxRecDepth 8000 in
set_option maxHeartbeats 12800000 in
theorem impl_side (cs0 : List Value) (a1 a2 : QR) (cs1 : List Value) (b1 b2 : QR) (cs2 : List Value) (c1 c2 : QR) (w : World) (hv0 : tPoint.at w cs0 (a1, a2)) (hw0 : wPoint (a1, a2) ≤ 1048576) (hv1 : tPoint.at w cs1 (b1, b2)) (hw1 : wPoint (b1, b2) ≤ 1048576) (hv2 : tPoint.at w cs2 (c1, c2)) (hw2 : wPoint (c1, c2) ≤ 1048576) (ka1 : ratOkB a1 = true) (ka2 : ratOkB a2 = true) (kb1 : ratOkB b1 = true) (kb2 : ratOkB b2 = true) (kc1 : ratOkB c1 = true) (kc2 : ratOkB c2 = true) :
    Calls Tryz.prog 37 #[.agg cs0.toArray, .agg cs1.toArray, .agg cs2.toArray] w fun e w' => e = .returned (.int .i64 (sideF (a1, a2) (b1, b2) (c1, c2))) ∧ More w w' := by
  obtain ⟨k0, d0, rfl, f0, e0⟩ := at_prod hv0
  have f1 := e0; clear e0
  have f0 : tRat.at w _ a1 := f0
  obtain ⟨a1a, a1n, a1c, a1d, a1m, a1e, rfl⟩ := sh_Rat f0
  have Ha1 := Lib.hid f0; clear f0
  try clear f0
  have Wa1 : Hid (wRat a1 ≤ 1048576) := Lib.hid (by have h := hw0; unfold wPoint at h; dsimp only at h; omega)
  have f1 : tRat.at w _ a2 := f1
  obtain ⟨a2a, a2n, a2c, a2d, a2m, a2e, rfl⟩ := sh_Rat f1
  have Ha2 := Lib.hid f1; clear f1
  try clear f1
  have Wa2 : Hid (wRat a2 ≤ 1048576) := Lib.hid (by have h := hw0; unfold wPoint at h; dsimp only at h; omega)
  try clear e0 e1
  have HV0 : Hid (tPoint.at w [.bool a1.1.1, .slice a1a a1n a1c, .slice a1d a1m a1e, .bool a2.1.1, .slice a2a a2n a2c, .slice a2d a2m a2e] (a1, a2)) := Lib.hid hv0; have HW0 := Lib.hid hw0; clear hv0 hw0
  obtain ⟨k0, d0, rfl, f0, e0⟩ := at_prod hv1
  have f1 := e0; clear e0
  have f0 : tRat.at w _ b1 := f0
  obtain ⟨b1a, b1n, b1c, b1d, b1m, b1e, rfl⟩ := sh_Rat f0
  have Hb1 := Lib.hid f0; clear f0
  try clear f0
  have Wb1 : Hid (wRat b1 ≤ 1048576) := Lib.hid (by have h := hw1; unfold wPoint at h; dsimp only at h; omega)
  have f1 : tRat.at w _ b2 := f1
  obtain ⟨b2a, b2n, b2c, b2d, b2m, b2e, rfl⟩ := sh_Rat f1
  have Hb2 := Lib.hid f1; clear f1
  try clear f1
  have Wb2 : Hid (wRat b2 ≤ 1048576) := Lib.hid (by have h := hw1; unfold wPoint at h; dsimp only at h; omega)
  try clear e0 e1
  have HV1 : Hid (tPoint.at w [.bool b1.1.1, .slice b1a b1n b1c, .slice b1d b1m b1e, .bool b2.1.1, .slice b2a b2n b2c, .slice b2d b2m b2e] (b1, b2)) := Lib.hid hv1; have HW1 := Lib.hid hw1; clear hv1 hw1
  obtain ⟨k0, d0, rfl, f0, e0⟩ := at_prod hv2
  have f1 := e0; clear e0
  have f0 : tRat.at w _ c1 := f0
  obtain ⟨c1a, c1n, c1c, c1d, c1m, c1e, rfl⟩ := sh_Rat f0
  have Hc1 := Lib.hid f0; clear f0
  try clear f0
  have Wc1 : Hid (wRat c1 ≤ 1048576) := Lib.hid (by have h := hw2; unfold wPoint at h; dsimp only at h; omega)
  have f1 : tRat.at w _ c2 := f1
  obtain ⟨c2a, c2n, c2c, c2d, c2m, c2e, rfl⟩ := sh_Rat f1
  have Hc2 := Lib.hid f1; clear f1
  try clear f1
  have Wc2 : Hid (wRat c2 ≤ 1048576) := Lib.hid (by have h := hw2; unfold wPoint at h; dsimp only at h; omega)
  try clear e0 e1
  have HV2 : Hid (tPoint.at w [.bool c1.1.1, .slice c1a c1n c1c, .slice c1d c1m c1e, .bool c2.1.1, .slice c2a c2n c2c, .slice c2d c2m c2e] (c1, c2)) := Lib.hid hv2; have HW2 := Lib.hid hw2; clear hv2 hw2
  have Ka1 := Lib.hid ka1; clear ka1
  have Ka2 := Lib.hid ka2; clear ka2
  have Kb1 := Lib.hid kb1; clear kb1
  have Kb2 := Lib.hid kb2; clear kb2
  have Kc1 := Lib.hid kc1; clear kc1
  have Kc2 := Lib.hid kc2; clear kc2
  obtain ⟨s9, a9⟩ := frOf_at Ha1.out Ka1.out; have Aa1 := Lib.hid a9; have Sa1 := Lib.hid s9; clear s9 a9
  obtain ⟨s9, a9⟩ := frOf_at Ha2.out Ka2.out; have Aa2 := Lib.hid a9; have Sa2 := Lib.hid s9; clear s9 a9
  obtain ⟨s9, a9⟩ := frOf_at Hb1.out Kb1.out; have Ab1 := Lib.hid a9; have Sb1 := Lib.hid s9; clear s9 a9
  obtain ⟨s9, a9⟩ := frOf_at Hb2.out Kb2.out; have Ab2 := Lib.hid a9; have Sb2 := Lib.hid s9; clear s9 a9
  obtain ⟨s9, a9⟩ := frOf_at Hc1.out Kc1.out; have Ac1 := Lib.hid a9; have Sc1 := Lib.hid s9; clear s9 a9
  obtain ⟨s9, a9⟩ := frOf_at Hc2.out Kc2.out; have Ac2 := Lib.hid a9; have Sc2 := Lib.hid s9; clear s9 a9
  have Va1 := Lib.hid (frOf_vd a1)
  have Va2 := Lib.hid (frOf_vd a2)
  have Vb1 := Lib.hid (frOf_vd b1)
  have Vb2 := Lib.hid (frOf_vd b2)
  have Vc1 := Lib.hid (frOf_vd c1)
  have Vc2 := Lib.hid (frOf_vd c2)
  show Calls Tryz.prog 37 #[.agg #[.bool a1.1.1, .slice a1a a1n a1c, .slice a1d a1m a1e, .bool a2.1.1, .slice a2a a2n a2c, .slice a2d a2m a2e], .agg #[.bool b1.1.1, .slice b1a b1n b1c, .slice b1d b1m b1e, .bool b2.1.1, .slice b2a b2n b2c, .slice b2d b2m b2e], .agg #[.bool c1.1.1, .slice c1a c1n c1c, .slice c1d c1m c1e, .bool c2.1.1, .slice c2a c2n c2c, .slice c2d c2m c2e]] w _
  have HX := More.refl (((w.alloc (.cells #[.bool a1.1.1, .slice a1a a1n a1c, .slice a1d a1m a1e, .bool a2.1.1, .slice a2a a2n a2c, .slice a2d a2m a2e] 28)).alloc (.cells #[.bool b1.1.1, .slice b1a b1n b1c, .slice b1d b1m b1e, .bool b2.1.1, .slice b2a b2n b2c, .slice b2d b2m b2e] 28)).alloc (.cells #[.bool c1.1.1, .slice c1a c1n c1c, .slice c1d c1m c1e, .bool c2.1.1, .slice c2a c2n c2c, .slice c2d c2m c2e] 28))
  have HB := fun (w' : World) (h : More (((w.alloc (.cells #[.bool a1.1.1, .slice a1a a1n a1c, .slice a1d a1m a1e, .bool a2.1.1, .slice a2a a2n a2c, .slice a2d a2m a2e] 28)).alloc (.cells #[.bool b1.1.1, .slice b1a b1n b1c, .slice b1d b1m b1e, .bool b2.1.1, .slice b2a b2n b2c, .slice b2d b2m b2e] 28)).alloc (.cells #[.bool c1.1.1, .slice c1a c1n c1c, .slice c1d c1m c1e, .bool c2.1.1, .slice c2a c2n c2c, .slice c2d c2m c2e] 28)) w') => And.intro (bx6 (w.heap.size) (by simp) (More.un (More.un h))) (And.intro (bx6 (w.heap.size + 1) (by simp) (More.un h)) (bx6 (w.heap.size + 1 + 1) (by simp) h))
  have HC := fun (w' : World) (h : Turns [] _ w') => HB w' (Turns.more h)
  go_enter Tryz.func37, Tryz.ntmps37
  go_wp2_with fail
  go_cut [7] (fun sl wx => ∃ (nb : Nat) (za : Option Addr) (zn zc : Nat) (zd : Option Addr) (zm ze : Nat), sl = .pointer (some ⟨nb, 0, none⟩) ∧ More (((w.alloc (.cells #[.bool a1.1.1, .slice a1a a1n a1c, .slice a1d a1m a1e, .bool a2.1.1, .slice a2a a2n a2c, .slice a2d a2m a2e] 28)).alloc (.cells #[.bool b1.1.1, .slice b1a b1n b1c, .slice b1d b1m b1e, .bool b2.1.1, .slice b2a b2n b2c, .slice b2d b2m b2e] 28)).alloc (.cells #[.bool c1.1.1, .slice c1a c1n c1c, .slice c1d c1m c1e, .bool c2.1.1, .slice c2a c2n c2c, .slice c2d c2m c2e] 28)) wx ∧ (((w.alloc (.cells #[.bool a1.1.1, .slice a1a a1n a1c, .slice a1d a1m a1e, .bool a2.1.1, .slice a2a a2n a2c, .slice a2d a2m a2e] 28)).alloc (.cells #[.bool b1.1.1, .slice b1a b1n b1c, .slice b1d b1m b1e, .bool b2.1.1, .slice b2a b2n b2c, .slice b2d b2m b2e] 28)).alloc (.cells #[.bool c1.1.1, .slice c1a c1n c1c, .slice c1d c1m c1e, .bool c2.1.1, .slice c2a c2n c2c, .slice c2d c2m c2e] 28)).heap.size ≤ nb ∧ Box3 wx nb (.bool (decide ((frMul (frSub (frOf b1) (frOf a1)) (frSub (frOf c2) (frOf a2))).1 < 0))) (.slice za zn zc) (.slice zd zm ze) ∧ Hid (RatAt wx (frMul (frSub (frOf b1) (frOf a1)) (frSub (frOf c2) (frOf a2))) (.slice za zn zc) (.slice zd zm ze)))
  case first =>
    go_region_held3 (fun w' => Turns [] (((w.alloc (.cells #[.bool a1.1.1, .slice a1a a1n a1c, .slice a1d a1m a1e, .bool a2.1.1, .slice a2a a2n a2c, .slice a2d a2m a2e] 28)).alloc (.cells #[.bool b1.1.1, .slice b1a b1n b1c, .slice b1d b1m b1e, .bool b2.1.1, .slice b2a b2n b2c, .slice b2d b2m b2e] 28)).alloc (.cells #[.bool c1.1.1, .slice c1a c1n c1c, .slice c1d c1m c1e, .bool c2.1.1, .slice c2a c2n c2c, .slice c2d c2m c2e] 28)) w') (first | exact tC | exact mC2) (first | (go_at_call 75; (with_reducible refine (impl_ratSubB (frOf b1) b1.1.1 (.slice b1a b1n b1c) (.slice b1d b1m b1e) (frOf a1) a1.1.1 (.slice a1a a1n a1c) (.slice a1d a1m a1e) _ Sb1.out Sa1.out (RatAt.more Ab1.out mC) Vb1.out (RatAt.more Aa1.out mC) Va1.out).mono ?_); rintro e w1 ⟨x1, y1, rfl, hb1, f1⟩; obtain ⟨r1a, r1n, r1c, r1d, r1m, r1e, rfl, rfl⟩ := f1.at.sh; have F1 : Hid (RatFr (((w.alloc (.cells #[.bool a1.1.1, .slice a1a a1n a1c, .slice a1d a1m a1e, .bool a2.1.1, .slice a2a a2n a2c, .slice a2d a2m a2e] 28)).alloc (.cells #[.bool b1.1.1, .slice b1a b1n b1c, .slice b1d b1m b1e, .bool b2.1.1, .slice b2a b2n b2c, .slice b2d b2m b2e] 28)).alloc (.cells #[.bool c1.1.1, .slice c1a c1n c1c, .slice c1d c1m c1e, .bool c2.1.1, .slice c2a c2n c2c, .slice c2d c2m c2e] 28)).heap.size w1 (frSub (frOf b1) (frOf a1)) _ _) := Lib.hid (RatFr.mono f1 (More.size mC)); have A1_ : Hid (RatAt w1 (frSub (frOf b1) (frOf a1)) _ _) := Lib.hid f1.at; clear f1; have HX1 := More.trans HX (show More _ w1 from mC); have HB1 := HB _ HX1; have hz1 := More.size HX1; (try simp at hz1); have hb1 := hb1; (try (have N0 : Box3 w1 (w.heap.size + 1 + 1 + 1) (.bool false) (.slice none 0 0) (.slice none 0 0) := Box3.newD (by simp) hb1)); (try (have n0c0 := N0.c0; have n0c1 := N0.c1; have n0fr := N0.fr; have n0c2 := N0.c2))) | (go_at_call 75; (with_reducible refine (impl_ratSubB (frOf c2) c2.1.1 (.slice c2a c2n c2c) (.slice c2d c2m c2e) (frOf a2) a2.1.1 (.slice a2a a2n a2c) (.slice a2d a2m a2e) _ Sc2.out Sa2.out (RatAt.more Ac2.out mC) Vc2.out (RatAt.more Aa2.out mC) Va2.out).mono ?_); rintro e w2 ⟨x2, y2, rfl, hb2, f2⟩; obtain ⟨r2a, r2n, r2c, r2d, r2m, r2e, rfl, rfl⟩ := f2.at.sh; have F2 : Hid (RatFr (((w.alloc (.cells #[.bool a1.1.1, .slice a1a a1n a1c, .slice a1d a1m a1e, .bool a2.1.1, .slice a2a a2n a2c, .slice a2d a2m a2e] 28)).alloc (.cells #[.bool b1.1.1, .slice b1a b1n b1c, .slice b1d b1m b1e, .bool b2.1.1, .slice b2a b2n b2c, .slice b2d b2m b2e] 28)).alloc (.cells #[.bool c1.1.1, .slice c1a c1n c1c, .slice c1d c1m c1e, .bool c2.1.1, .slice c2a c2n c2c, .slice c2d c2m c2e] 28)).heap.size w2 (frSub (frOf c2) (frOf a2)) _ _) := Lib.hid (RatFr.mono f2 (More.size mC)); have A2_ : Hid (RatAt w2 (frSub (frOf c2) (frOf a2)) _ _) := Lib.hid f2.at; clear f2; have HX2 := More.trans HX (show More _ w2 from mC); have HB2 := HB _ HX2; have hz2 := More.size HX2; (try simp at hz2); have hb2 := hb2; (try (have N0 : Box3 w2 (w.heap.size + 1 + 1 + 1) (.bool false) (.slice none 0 0) (.slice none 0 0) := Box3.keep N0 hb2)); (try (have n0c0 := N0.c0; have n0c1 := N0.c1; have n0fr := N0.fr; have n0c2 := N0.c2)); (try (have N1 : Box3 w2 (w1.heap.size) (.bool false) (.slice none 0 0) (.slice none 0 0) := Box3.new (by simp) hb2)); (try (have n1c0 := N1.c0; have n1c1 := N1.c1; have n1fr := N1.fr; have n1c2 := N1.c2))) | (go_at_call 74; (with_reducible refine (impl_ratMulB (frSub (frOf b1) (frOf a1)) _ (.slice r1a r1n r1c) (.slice r1d r1m r1e) (frSub (frOf c2) (frOf a2)) _ (.slice r2a r2n r2c) (.slice r2d r2m r2e) _ rfl rfl (RatAt.more A1_.out mC) frSub_vd (RatAt.more A2_.out mC) frSub_vd).mono ?_); rintro e w3 ⟨x3, y3, rfl, hb3, f3⟩; obtain ⟨r3a, r3n, r3c, r3d, r3m, r3e, rfl, rfl⟩ := f3.at.sh; have F3 : Hid (RatFr (((w.alloc (.cells #[.bool a1.1.1, .slice a1a a1n a1c, .slice a1d a1m a1e, .bool a2.1.1, .slice a2a a2n a2c, .slice a2d a2m a2e] 28)).alloc (.cells #[.bool b1.1.1, .slice b1a b1n b1c, .slice b1d b1m b1e, .bool b2.1.1, .slice b2a b2n b2c, .slice b2d b2m b2e] 28)).alloc (.cells #[.bool c1.1.1, .slice c1a c1n c1c, .slice c1d c1m c1e, .bool c2.1.1, .slice c2a c2n c2c, .slice c2d c2m c2e] 28)).heap.size w3 (frMul (frSub (frOf b1) (frOf a1)) (frSub (frOf c2) (frOf a2))) _ _) := Lib.hid (RatFr.mono f3 (More.size mC)); have A3_ : Hid (RatAt w3 (frMul (frSub (frOf b1) (frOf a1)) (frSub (frOf c2) (frOf a2))) _ _) := Lib.hid f3.at; clear f3; have HX3 := More.trans HX (show More _ w3 from mC); have HB3 := HB _ HX3; have hz3 := More.size HX3; (try simp at hz3); have hb3 := hb3; (try (have N0 : Box3 w3 (w.heap.size + 1 + 1 + 1) (.bool false) (.slice none 0 0) (.slice none 0 0) := Box3.keep N0 hb3)); (try (have n0c0 := N0.c0; have n0c1 := N0.c1; have n0fr := N0.fr; have n0c2 := N0.c2)); (try (have N1 : Box3 w3 (w1.heap.size) (.bool false) (.slice none 0 0) (.slice none 0 0) := Box3.keep N1 hb3)); (try (have n1c0 := N1.c0; have n1c1 := N1.c1; have n1fr := N1.fr; have n1c2 := N1.c2)); (try (have N2 : Box3 w3 (w2.heap.size) (.bool false) (.slice none 0 0) (.slice none 0 0) := Box3.new (by simp) hb3)); (try (have n2c0 := N2.c0; have n2c1 := N2.c1; have n2fr := N2.fr; have n2c2 := N2.c2))))
    all_goals
      go_wp2_with fail
      go_meet
      first | exact ⟨w3.heap.size, _, _, _, _, _, _, rfl, mC, More.size HX3, Box3.new rfl (More.refl _), Lib.hid (RatAt.more A3_.out mC)⟩ | exact ⟨w.heap.size + 1 + 1 + 1, _, _, _, _, _, _, rfl, Box3.more HX3 ((by simp)), (by simp), Box3.set N0, Lib.hid (RatAt.box3 A3_.out N0)⟩ | exact ⟨w1.heap.size, _, _, _, _, _, _, rfl, Box3.more HX3 (More.size HX1), More.size HX1, Box3.set N1, Lib.hid (RatAt.box3 A3_.out N1)⟩ | exact ⟨w2.heap.size, _, _, _, _, _, _, rfl, Box3.more HX3 (More.size HX2), More.size HX2, Box3.set N2, Lib.hid (RatAt.box3 A3_.out N2)⟩
  case rest =>
  rename World => wd
  obtain ⟨nb1, z1a, z1n, z1c, z1d, z1m, z1e, rfl, hm1, hn1, hB1, hG1⟩ := hcut
  have HC' := HC
  clear HC
  have HC := fun (w' : World) (h : Turns [] wd w') => And.intro (HC' w' ((More.turns hm1 _).trans h)) (hB1.turn h (by simp))
  have HB' := HB
  clear HB HX
  have HB := fun (w' : World) (h : More wd w') => And.intro (HB' w' (More.trans hm1 h)) (And.intro ((hB1.keep h).turn (More.turns (More.refl _) []) (by simp)) (hB1.keep h).fr)
  go_wp2_with fail
  go_cut [8] (fun sl wx => ∃ (nb : Nat) (za : Option Addr) (zn zc : Nat) (zd : Option Addr) (zm ze : Nat), sl = .pointer (some ⟨nb, 0, none⟩) ∧ More wd wx ∧ wd.heap.size ≤ nb ∧ Box3 wx nb (.bool (decide ((frMul (frSub (frOf b2) (frOf a2)) (frSub (frOf c1) (frOf a1))).1 < 0))) (.slice za zn zc) (.slice zd zm ze) ∧ Hid (RatAt wx (frMul (frSub (frOf b2) (frOf a2)) (frSub (frOf c1) (frOf a1))) (.slice za zn zc) (.slice zd zm ze)))
  case first =>
    go_region_held3 (fun w' => Turns [] wd w') (first | exact tC | exact mC2) (first | (go_at_call 75; (with_reducible refine (impl_ratSubB (frOf b2) b2.1.1 (.slice b2a b2n b2c) (.slice b2d b2m b2e) (frOf a2) a2.1.1 (.slice a2a a2n a2c) (.slice a2d a2m a2e) _ Sb2.out Sa2.out (RatAt.more Ab2.out mC) Vb2.out (RatAt.more Aa2.out mC) Va2.out).mono ?_); rintro e w4 ⟨x4, y4, rfl, hb4, f4⟩; obtain ⟨r4a, r4n, r4c, r4d, r4m, r4e, rfl, rfl⟩ := f4.at.sh; have F4 : Hid (RatFr wd.heap.size w4 (frSub (frOf b2) (frOf a2)) _ _) := Lib.hid (RatFr.mono f4 (More.size mC)); have A4_ : Hid (RatAt w4 (frSub (frOf b2) (frOf a2)) _ _) := Lib.hid f4.at; clear f4; have HX4 : More wd w4 := mC; have HB4 := HB _ HX4; have hz4 := More.size HX4; (try simp at hz4); have hb4 := hb4; (try (have N0 : Box3 w4 (wd.heap.size) (.bool false) (.slice none 0 0) (.slice none 0 0) := Box3.newD (by simp) hb4)); (try (have n0c0 := N0.c0; have n0c1 := N0.c1; have n0fr := N0.fr; have n0c2 := N0.c2))) | (go_at_call 75; (with_reducible refine (impl_ratSubB (frOf c1) c1.1.1 (.slice c1a c1n c1c) (.slice c1d c1m c1e) (frOf a1) a1.1.1 (.slice a1a a1n a1c) (.slice a1d a1m a1e) _ Sc1.out Sa1.out (RatAt.more Ac1.out mC) Vc1.out (RatAt.more Aa1.out mC) Va1.out).mono ?_); rintro e w5 ⟨x5, y5, rfl, hb5, f5⟩; obtain ⟨r5a, r5n, r5c, r5d, r5m, r5e, rfl, rfl⟩ := f5.at.sh; have F5 : Hid (RatFr wd.heap.size w5 (frSub (frOf c1) (frOf a1)) _ _) := Lib.hid (RatFr.mono f5 (More.size mC)); have A5_ : Hid (RatAt w5 (frSub (frOf c1) (frOf a1)) _ _) := Lib.hid f5.at; clear f5; have HX5 : More wd w5 := mC; have HB5 := HB _ HX5; have hz5 := More.size HX5; (try simp at hz5); have hb5 := hb5; (try (have N0 : Box3 w5 (wd.heap.size) (.bool false) (.slice none 0 0) (.slice none 0 0) := Box3.keep N0 hb5)); (try (have n0c0 := N0.c0; have n0c1 := N0.c1; have n0fr := N0.fr; have n0c2 := N0.c2)); (try (have N1 : Box3 w5 (w4.heap.size) (.bool false) (.slice none 0 0) (.slice none 0 0) := Box3.new (by simp) hb5)); (try (have n1c0 := N1.c0; have n1c1 := N1.c1; have n1fr := N1.fr; have n1c2 := N1.c2))) | (go_at_call 74; (with_reducible refine (impl_ratMulB (frSub (frOf b2) (frOf a2)) _ (.slice r4a r4n r4c) (.slice r4d r4m r4e) (frSub (frOf c1) (frOf a1)) _ (.slice r5a r5n r5c) (.slice r5d r5m r5e) _ rfl rfl (RatAt.more A4_.out mC) frSub_vd (RatAt.more A5_.out mC) frSub_vd).mono ?_); rintro e w6 ⟨x6, y6, rfl, hb6, f6⟩; obtain ⟨r6a, r6n, r6c, r6d, r6m, r6e, rfl, rfl⟩ := f6.at.sh; have F6 : Hid (RatFr wd.heap.size w6 (frMul (frSub (frOf b2) (frOf a2)) (frSub (frOf c1) (frOf a1))) _ _) := Lib.hid (RatFr.mono f6 (More.size mC)); have A6_ : Hid (RatAt w6 (frMul (frSub (frOf b2) (frOf a2)) (frSub (frOf c1) (frOf a1))) _ _) := Lib.hid f6.at; clear f6; have HX6 : More wd w6 := mC; have HB6 := HB _ HX6; have hz6 := More.size HX6; (try simp at hz6); have hb6 := hb6; (try (have N0 : Box3 w6 (wd.heap.size) (.bool false) (.slice none 0 0) (.slice none 0 0) := Box3.keep N0 hb6)); (try (have n0c0 := N0.c0; have n0c1 := N0.c1; have n0fr := N0.fr; have n0c2 := N0.c2)); (try (have N1 : Box3 w6 (w4.heap.size) (.bool false) (.slice none 0 0) (.slice none 0 0) := Box3.keep N1 hb6)); (try (have n1c0 := N1.c0; have n1c1 := N1.c1; have n1fr := N1.fr; have n1c2 := N1.c2)); (try (have N2 : Box3 w6 (w5.heap.size) (.bool false) (.slice none 0 0) (.slice none 0 0) := Box3.new (by simp) hb6)); (try (have n2c0 := N2.c0; have n2c1 := N2.c1; have n2fr := N2.fr; have n2c2 := N2.c2))))
    all_goals
      go_wp2_with fail
      go_meet
      first | exact ⟨w6.heap.size, _, _, _, _, _, _, rfl, mC, More.size HX6, Box3.new rfl (More.refl _), Lib.hid (RatAt.more A6_.out mC)⟩ | exact ⟨wd.heap.size, _, _, _, _, _, _, rfl, Box3.more HX6 ((Nat.le_refl _)), (Nat.le_refl _), Box3.set N0, Lib.hid (RatAt.box3 A6_.out N0)⟩ | exact ⟨w4.heap.size, _, _, _, _, _, _, rfl, Box3.more HX6 (More.size HX4), More.size HX4, Box3.set N1, Lib.hid (RatAt.box3 A6_.out N1)⟩ | exact ⟨w5.heap.size, _, _, _, _, _, _, rfl, Box3.more HX6 (More.size HX5), More.size HX5, Box3.set N2, Lib.hid (RatAt.box3 A6_.out N2)⟩
  case rest =>
  rename World => wf
  obtain ⟨nb2, z2a, z2n, z2c, z2d, z2m, z2e, rfl, hm2, hn2, hB2, hG2⟩ := hcut
  have HC' := HC
  clear HC
  have HC := fun (w' : World) (h : Turns [] wf w') => And.intro (HC' w' ((More.turns hm2 _).trans h)) (hB2.turn h (by simp))
  have HB' := HB
  clear HB
  have HB := fun (w' : World) (h : More wf w') => And.intro (HB' w' (More.trans hm2 h)) (And.intro ((hB2.keep h).turn (More.turns (More.refl _) []) (by simp)) (hB2.keep h).fr)
  have HBf := HB _ (More.refl _)
  have hl1 := hB1.lt; have hl2 := hB2.lt
  go_wp2_with (first | (go_at_call 75; (with_reducible refine (impl_ratSubB (frMul (frSub (frOf b1) (frOf a1)) (frSub (frOf c2) (frOf a2))) _ (.slice z1a z1n z1c) (.slice z1d z1m z1e) (frMul (frSub (frOf b2) (frOf a2)) (frSub (frOf c1) (frOf a1))) _ (.slice z2a z2n z2c) (.slice z2d z2m z2e) _ rfl rfl (RatAt.more hG1.out mC) frMul_vd (RatAt.more hG2.out mC) frMul_vd).mono ?_); rintro e w7 ⟨x7, y7, rfl, hb7, f7⟩; obtain ⟨r7a, r7n, r7c, r7d, r7m, r7e, rfl, rfl⟩ := f7.at.sh; have F7 : Hid (RatFr wf.heap.size w7 (frSub (frMul (frSub (frOf b1) (frOf a1)) (frSub (frOf c2) (frOf a2))) (frMul (frSub (frOf b2) (frOf a2)) (frSub (frOf c1) (frOf a1)))) _ _) := Lib.hid (RatFr.mono f7 (More.size mC)); have A7_ : Hid (RatAt w7 (frSub (frMul (frSub (frOf b1) (frOf a1)) (frSub (frOf c2) (frOf a2))) (frMul (frSub (frOf b2) (frOf a2)) (frSub (frOf c1) (frOf a1)))) _ _) := Lib.hid f7.at; clear f7; have HX7 : More wf w7 := mC; have HB7 := HB _ HX7; have hz7 := More.size HX7; (try simp at hz7); have hb7 := hb7) | (go_at_call 76; (with_reducible refine (impl_ratSignB (frSub (frMul (frSub (frOf b1) (frOf a1)) (frSub (frOf c2) (frOf a2))) (frMul (frSub (frOf b2) (frOf a2)) (frSub (frOf c1) (frOf a1)))) _ (.slice r7a r7n r7c) (.slice r7d r7m r7e) _ rfl (RatAt.more A7_.out mC) frSub_vd).mono ?_); rintro e w8 ⟨rfl, hb8⟩; have HX8 : More wf w8 := mC; have HB8 := HB _ HX8; have hz8 := More.size HX8; (try simp at hz8); have hb8 := hb8))
  go_ret
  exact ⟨rfl, mC⟩
end Go.Proofs.YtnbefpfijaimjaaGreatDoor
