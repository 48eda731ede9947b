/- Cells: valid ones. -/
import Derived.Test.YteihkhniibncnaaGreatThn
import Derived.Test.YteihkhniibncnaaGreatGInt
namespace Go.Proofs.YteihkhniibncnaaGreat
open Go.RowKit
noncomputable def cellB (x : QCell) : Bool := [x.1, x.2.1, x.2.2.1, x.2.2.2.1, x.2.2.2.2.1, x.2.2.2.2.2].all ratOkB && (decide (rCmp x.1 x.2.1 < 0) && (decide (rCmp x.2.2.1 x.2.2.2.2.1 ≤ 0) && (decide (rCmp x.2.2.2.1 x.2.2.2.2.2 ≤ 0) && decide (rCmp x.2.2.1 x.2.2.2.2.1 + rCmp x.2.2.2.1 x.2.2.2.2.2 < 0))))
set_option maxRecDepth 4000 in
set_option maxHeartbeats 6400000 in
theorem impl_IsValidCell (cs : List Value) (p q r s t y : QR) (w : World) (hv : tCell.at w cs (p, q, r, s, t, y)) (hw : wCell (p, q, r, s, t, y) ≤ 1048576) :
    Calls Tryz.prog 80 #[.agg cs.toArray] w fun e w' => e = .returned (.bool (cellB (p, q, r, s, t, y))) ∧ More w w' := by
  obtain ⟨k0, d0, rfl, f0, e0⟩ := at_prod hv
  obtain ⟨k1, d1, rfl, f1, e1⟩ := at_prod e0
  obtain ⟨k2, d2, rfl, f2, e2⟩ := at_prod e1
  obtain ⟨k3, d3, rfl, f3, e3⟩ := at_prod e2
  obtain ⟨k4, d4, rfl, f4, e4⟩ := at_prod e3
  have f5 := e4; clear e4
  have f0 : tRat.at w _ p := f0
  obtain ⟨pa, pn, pc, pd, pm, pe, rfl⟩ := sh_Rat f0
  have Hp := Lib.hid f0; clear f0
  try clear f0
  have Wp : Hid (wRat p ≤ 1048576) := Lib.hid (by unfold wCell at hw; dsimp only at hw; omega)
  have f1 : tRat.at w _ q := f1
  obtain ⟨qa, qn, qc, qd, qm, qe, rfl⟩ := sh_Rat f1
  have Hq := Lib.hid f1; clear f1
  try clear f1
  have Wq : Hid (wRat q ≤ 1048576) := Lib.hid (by unfold wCell at hw; dsimp only at hw; omega)
  have f2 : tRat.at w _ r := f2
  obtain ⟨ra, rn, rc, rd, rm, re, rfl⟩ := sh_Rat f2
  have Hr := Lib.hid f2; clear f2
  try clear f2
  have Wr : Hid (wRat r ≤ 1048576) := Lib.hid (by unfold wCell at hw; dsimp only at hw; omega)
  have f3 : tRat.at w _ s := f3
  obtain ⟨sa, sn, sc, sd, sm, se, rfl⟩ := sh_Rat f3
  have Hs := Lib.hid f3; clear f3
  try clear f3
  have Ws : Hid (wRat s ≤ 1048576) := Lib.hid (by unfold wCell at hw; dsimp only at hw; omega)
  have f4 : tRat.at w _ t := f4
  obtain ⟨ta, tn, tc, td, tm, te, rfl⟩ := sh_Rat f4
  have Ht := Lib.hid f4; clear f4
  try clear f4
  have Wt : Hid (wRat t ≤ 1048576) := Lib.hid (by unfold wCell at hw; dsimp only at hw; omega)
  have f5 : tRat.at w _ y := f5
  obtain ⟨ya, yn, yc, yd, ym, ye, rfl⟩ := sh_Rat f5
  have Hy := Lib.hid f5; clear f5
  try clear f5
  have Wy : Hid (wRat y ≤ 1048576) := Lib.hid (by unfold wCell at hw; dsimp only at hw; omega)
  clear hw
  try clear f0 f1 f2 f3 f4 f5
  try clear f0 f1 f2
  try clear e0 e1 e2 e3 e4
  try clear e0 e1
  try clear e0
  try clear hv
  show Calls Tryz.prog 80 #[.agg #[.bool p.1.1, .slice pa pn pc, .slice pd pm pe, .bool q.1.1, .slice qa qn qc, .slice qd qm qe, .bool r.1.1, .slice ra rn rc, .slice rd rm re, .bool s.1.1, .slice sa sn sc, .slice sd sm se, .bool t.1.1, .slice ta tn tc, .slice td tm te, .bool y.1.1, .slice ya yn yc, .slice yd ym ye]] w _
  rcases Bool.eq_false_or_eq_true ([p, q, r, s, t, y].all ratOkB) with ka | ka
  rotate_left
  · have KA := Lib.hid ka; clear ka
    have HX := More.refl (w.alloc (.cells #[.bool p.1.1, .slice pa pn pc, .slice pd pm pe, .bool q.1.1, .slice qa qn qc, .slice qd qm qe, .bool r.1.1, .slice ra rn rc, .slice rd rm re, .bool s.1.1, .slice sa sn sc, .slice sd sm se, .bool t.1.1, .slice ta tn tc, .slice td tm te, .bool y.1.1, .slice ya yn yc, .slice yd ym ye] 62))
    have HB := fun (w' : World) (h : More (w.alloc (.cells #[.bool p.1.1, .slice pa pn pc, .slice pd pm pe, .bool q.1.1, .slice qa qn qc, .slice qd qm qe, .bool r.1.1, .slice ra rn rc, .slice rd rm re, .bool s.1.1, .slice sa sn sc, .slice sd sm se, .bool t.1.1, .slice ta tn tc, .slice td tm te, .bool y.1.1, .slice ya yn yc, .slice yd ym ye] 62)) w') => bx18 (w.heap.size) (by simp) h
    have HC := fun (w' : World) (h : Turns [] _ w') => HB w' (Turns.more h)
    go_enter Tryz.func80, Tryz.ntmps80
    go_wp2_with (first | (go_at_call 139; refine (impl_allRats _ [p, q, r, s, t, y] _ (lit_at (S := tRat) (n := 6) [([.bool p.1.1, .slice pa pn pc, .slice pd pm pe], p), ([.bool q.1.1, .slice qa qn qc, .slice qd qm qe], q), ([.bool r.1.1, .slice ra rn rc, .slice rd rm re], r), ([.bool s.1.1, .slice sa sn sc, .slice sd sm se], s), ([.bool t.1.1, .slice ta tn tc, .slice td tm te], t), ([.bool y.1.1, .slice ya yn yc, .slice yd ym ye], y)] (by simp) rfl rfl (by decide) (by rintro p hp; simp only [List.mem_cons, List.not_mem_nil, or_false] at hp; rcases hp with rfl | rfl | rfl | rfl | rfl | rfl <;> first | exact ⟨rfl, (Ty.at_more Hp.out mC)⟩ | exact ⟨rfl, (Ty.at_more Hq.out mC)⟩ | exact ⟨rfl, (Ty.at_more Hr.out mC)⟩ | exact ⟨rfl, (Ty.at_more Hs.out mC)⟩ | exact ⟨rfl, (Ty.at_more Ht.out mC)⟩ | exact ⟨rfl, (Ty.at_more Hy.out mC)⟩) : tRatS.at _ [_] [p, q, r, s, t, y]) (by refine ⟨by simp, ?_⟩; intro x hx; simp only [List.mem_cons, List.not_mem_nil, or_false] at hx; rcases hx with rfl | rfl | rfl | rfl | rfl | rfl <;> first | exact Wp.out | exact Wq.out | exact Wr.out | exact Ws.out | exact Wt.out | exact Wy.out)).mono ?_; rintro e w1 ⟨rfl, hb1⟩; have HX1 := More.trans HX (show More _ w1 from mC); have HB1 := HB _ HX1; have hz1 := More.size HX1; (try simp at hz1); have hb1 := hb1; rw [KA.out]))
    go_ret
    exact ⟨ret_bool (by unfold cellB; rw [KA.out]; rfl), mC⟩
  have KA := Lib.hid ka
  simp only [List.all_cons, List.all_nil, Bool.and_true, Bool.and_eq_true] at ka
  obtain ⟨kp, kq, kr, ks, kt, ky⟩ := ka
  have Kp := Lib.hid kp; have Kq := Lib.hid kq; have Kr := Lib.hid kr; have Ks := Lib.hid ks; have Kt := Lib.hid kt; have Ky := Lib.hid ky; clear kp kq kr ks kt ky
  obtain ⟨c, ch⟩ : ∃ c, rCmp p q = c := ⟨_, rfl⟩
  obtain ⟨cl, cu⟩ : -1 ≤ c ∧ c ≤ 1 := by rw [← ch]; exact rCmp_range _ _
  have C := Lib.hid ch; clear ch
  obtain ⟨d, dh⟩ : ∃ c, rCmp r t = c := ⟨_, rfl⟩
  obtain ⟨dl, du⟩ : -1 ≤ d ∧ d ≤ 1 := by rw [← dh]; exact rCmp_range _ _
  have D := Lib.hid dh; clear dh
  obtain ⟨e0, e0h⟩ : ∃ c, rCmp s y = c := ⟨_, rfl⟩
  obtain ⟨e0l, e0u⟩ : -1 ≤ e0 ∧ e0 ≤ 1 := by rw [← e0h]; exact rCmp_range _ _
  have E := Lib.hid e0h; clear e0h
  have EE : Hid (cellB (p, q, r, s, t, y) = (decide (c < 0) && (decide (d ≤ 0) && (decide (e0 ≤ 0) && decide (d + e0 < 0))))) := Lib.hid (by unfold cellB; dsimp only; rw [C.out, D.out, E.out]; simp [KA.out])
  rw [EE.out]
  rcases (show c < 0 ∨ 0 ≤ c by omega) with hc | hc
  rotate_left
  · skip
    have HX := More.refl (w.alloc (.cells #[.bool p.1.1, .slice pa pn pc, .slice pd pm pe, .bool q.1.1, .slice qa qn qc, .slice qd qm qe, .bool r.1.1, .slice ra rn rc, .slice rd rm re, .bool s.1.1, .slice sa sn sc, .slice sd sm se, .bool t.1.1, .slice ta tn tc, .slice td tm te, .bool y.1.1, .slice ya yn yc, .slice yd ym ye] 62))
    have HB := fun (w' : World) (h : More (w.alloc (.cells #[.bool p.1.1, .slice pa pn pc, .slice pd pm pe, .bool q.1.1, .slice qa qn qc, .slice qd qm qe, .bool r.1.1, .slice ra rn rc, .slice rd rm re, .bool s.1.1, .slice sa sn sc, .slice sd sm se, .bool t.1.1, .slice ta tn tc, .slice td tm te, .bool y.1.1, .slice ya yn yc, .slice yd ym ye] 62)) w') => bx18 (w.heap.size) (by simp) h
    have HC := fun (w' : World) (h : Turns [] _ w') => HB w' (Turns.more h)
    go_enter Tryz.func80, Tryz.ntmps80
    go_wp2_with (first | (go_at_call 139; refine (impl_allRats _ [p, q, r, s, t, y] _ (lit_at (S := tRat) (n := 6) [([.bool p.1.1, .slice pa pn pc, .slice pd pm pe], p), ([.bool q.1.1, .slice qa qn qc, .slice qd qm qe], q), ([.bool r.1.1, .slice ra rn rc, .slice rd rm re], r), ([.bool s.1.1, .slice sa sn sc, .slice sd sm se], s), ([.bool t.1.1, .slice ta tn tc, .slice td tm te], t), ([.bool y.1.1, .slice ya yn yc, .slice yd ym ye], y)] (by simp) rfl rfl (by decide) (by rintro p hp; simp only [List.mem_cons, List.not_mem_nil, or_false] at hp; rcases hp with rfl | rfl | rfl | rfl | rfl | rfl <;> first | exact ⟨rfl, (Ty.at_more Hp.out mC)⟩ | exact ⟨rfl, (Ty.at_more Hq.out mC)⟩ | exact ⟨rfl, (Ty.at_more Hr.out mC)⟩ | exact ⟨rfl, (Ty.at_more Hs.out mC)⟩ | exact ⟨rfl, (Ty.at_more Ht.out mC)⟩ | exact ⟨rfl, (Ty.at_more Hy.out mC)⟩) : tRatS.at _ [_] [p, q, r, s, t, y]) (by refine ⟨by simp, ?_⟩; intro x hx; simp only [List.mem_cons, List.not_mem_nil, or_false] at hx; rcases hx with rfl | rfl | rfl | rfl | rfl | rfl <;> first | exact Wp.out | exact Wq.out | exact Wr.out | exact Ws.out | exact Wt.out | exact Wy.out)).mono ?_; rintro e w1 ⟨rfl, hb1⟩; have HX1 := More.trans HX (show More _ w1 from mC); have HB1 := HB _ HX1; have hz1 := More.size HX1; (try simp at hz1); have hb1 := hb1; rw [KA.out]) | (go_at_call 134; (with_reducible refine (impl_ratCmpX p p.1.1 (.slice pa pn pc) (.slice pd pm pe) q q.1.1 (.slice qa qn qc) (.slice qd qm qe) _ Kp.out Kq.out (Ty.at_more Hp.out mC) (Ty.at_more Hq.out mC)).mono ?_); rintro e w7 ⟨rfl, hb7⟩; have HX7 := More.trans HX (show More _ w7 from mC); have HB7 := HB _ HX7; have hz7 := More.size HX7; (try simp at hz7); have hb7 := hb7; rw [C.out]) | (go_at_call 134; (with_reducible refine (impl_ratCmpX r r.1.1 (.slice ra rn rc) (.slice rd rm re) t t.1.1 (.slice ta tn tc) (.slice td tm te) _ Kr.out Kt.out (Ty.at_more Hr.out mC) (Ty.at_more Ht.out mC)).mono ?_); rintro e w8 ⟨rfl, hb8⟩; have HX8 := More.trans HX (show More _ w8 from mC); have HB8 := HB _ HX8; have hz8 := More.size HX8; (try simp at hz8); have hb8 := hb8; rw [D.out]) | (go_at_call 134; (with_reducible refine (impl_ratCmpX s s.1.1 (.slice sa sn sc) (.slice sd sm se) y y.1.1 (.slice ya yn yc) (.slice yd ym ye) _ Ks.out Ky.out (Ty.at_more Hs.out mC) (Ty.at_more Hy.out mC)).mono ?_); rintro e w9 ⟨rfl, hb9⟩; have HX9 := More.trans HX (show More _ w9 from mC); have HB9 := HB _ HX9; have hz9 := More.size HX9; (try simp at hz9); have hb9 := hb9; rw [E.out]))
    skip
    go_ret
    exact ⟨ret_bool (by first | rfl | (simp <;> omega) | (rw [Bool.eq_iff_iff]; simp only [Bool.and_eq_true, decide_eq_true_eq]; omega)), mC⟩
  rcases (show d < 0 ∨ d = 0 ∨ 0 < d by omega) with hd | hd | hd
  all_goals
    rcases (show e0 < 0 ∨ e0 = 0 ∨ 0 < e0 by omega) with he | he | he
  all_goals
    have HX := More.refl (w.alloc (.cells #[.bool p.1.1, .slice pa pn pc, .slice pd pm pe, .bool q.1.1, .slice qa qn qc, .slice qd qm qe, .bool r.1.1, .slice ra rn rc, .slice rd rm re, .bool s.1.1, .slice sa sn sc, .slice sd sm se, .bool t.1.1, .slice ta tn tc, .slice td tm te, .bool y.1.1, .slice ya yn yc, .slice yd ym ye] 62))
    have HB := fun (w' : World) (h : More (w.alloc (.cells #[.bool p.1.1, .slice pa pn pc, .slice pd pm pe, .bool q.1.1, .slice qa qn qc, .slice qd qm qe, .bool r.1.1, .slice ra rn rc, .slice rd rm re, .bool s.1.1, .slice sa sn sc, .slice sd sm se, .bool t.1.1, .slice ta tn tc, .slice td tm te, .bool y.1.1, .slice ya yn yc, .slice yd ym ye] 62)) w') => bx18 (w.heap.size) (by simp) h
    have HC := fun (w' : World) (h : Turns [] _ w') => HB w' (Turns.more h)
    go_enter Tryz.func80, Tryz.ntmps80
    go_wp2_with (first | (go_at_call 139; refine (impl_allRats _ [p, q, r, s, t, y] _ (lit_at (S := tRat) (n := 6) [([.bool p.1.1, .slice pa pn pc, .slice pd pm pe], p), ([.bool q.1.1, .slice qa qn qc, .slice qd qm qe], q), ([.bool r.1.1, .slice ra rn rc, .slice rd rm re], r), ([.bool s.1.1, .slice sa sn sc, .slice sd sm se], s), ([.bool t.1.1, .slice ta tn tc, .slice td tm te], t), ([.bool y.1.1, .slice ya yn yc, .slice yd ym ye], y)] (by simp) rfl rfl (by decide) (by rintro p hp; simp only [List.mem_cons, List.not_mem_nil, or_false] at hp; rcases hp with rfl | rfl | rfl | rfl | rfl | rfl <;> first | exact ⟨rfl, (Ty.at_more Hp.out mC)⟩ | exact ⟨rfl, (Ty.at_more Hq.out mC)⟩ | exact ⟨rfl, (Ty.at_more Hr.out mC)⟩ | exact ⟨rfl, (Ty.at_more Hs.out mC)⟩ | exact ⟨rfl, (Ty.at_more Ht.out mC)⟩ | exact ⟨rfl, (Ty.at_more Hy.out mC)⟩) : tRatS.at _ [_] [p, q, r, s, t, y]) (by refine ⟨by simp, ?_⟩; intro x hx; simp only [List.mem_cons, List.not_mem_nil, or_false] at hx; rcases hx with rfl | rfl | rfl | rfl | rfl | rfl <;> first | exact Wp.out | exact Wq.out | exact Wr.out | exact Ws.out | exact Wt.out | exact Wy.out)).mono ?_; rintro e w1 ⟨rfl, hb1⟩; have HX1 := More.trans HX (show More _ w1 from mC); have HB1 := HB _ HX1; have hz1 := More.size HX1; (try simp at hz1); have hb1 := hb1; rw [KA.out]) | (go_at_call 134; (with_reducible refine (impl_ratCmpX p p.1.1 (.slice pa pn pc) (.slice pd pm pe) q q.1.1 (.slice qa qn qc) (.slice qd qm qe) _ Kp.out Kq.out (Ty.at_more Hp.out mC) (Ty.at_more Hq.out mC)).mono ?_); rintro e w7 ⟨rfl, hb7⟩; have HX7 := More.trans HX (show More _ w7 from mC); have HB7 := HB _ HX7; have hz7 := More.size HX7; (try simp at hz7); have hb7 := hb7; rw [C.out]))
    go_region_held3 (fun w' => Turns [] (w.alloc (.cells #[.bool p.1.1, .slice pa pn pc, .slice pd pm pe, .bool q.1.1, .slice qa qn qc, .slice qd qm qe, .bool r.1.1, .slice ra rn rc, .slice rd rm re, .bool s.1.1, .slice sa sn sc, .slice sd sm se, .bool t.1.1, .slice ta tn tc, .slice td tm te, .bool y.1.1, .slice ya yn yc, .slice yd ym ye] 62)) w') (first | exact tC | exact mC2) (first | (go_at_call 134; (with_reducible refine (impl_ratCmpX r r.1.1 (.slice ra rn rc) (.slice rd rm re) t t.1.1 (.slice ta tn tc) (.slice td tm te) _ Kr.out Kt.out (Ty.at_more Hr.out mC) (Ty.at_more Ht.out mC)).mono ?_); rintro e w8 ⟨rfl, hb8⟩; have HX8 := More.trans HX (show More _ w8 from mC); have HB8 := HB _ HX8; have hz8 := More.size HX8; (try simp at hz8); have hb8 := hb8; rw [D.out]) | (go_at_call 134; (with_reducible refine (impl_ratCmpX s s.1.1 (.slice sa sn sc) (.slice sd sm se) y y.1.1 (.slice ya yn yc) (.slice yd ym ye) _ Ks.out Ky.out (Ty.at_more Hs.out mC) (Ty.at_more Hy.out mC)).mono ?_); rintro e w9 ⟨rfl, hb9⟩; have HX9 := More.trans HX (show More _ w9 from mC); have HB9 := HB _ HX9; have hz9 := More.size HX9; (try simp at hz9); have hb9 := hb9; rw [E.out]))
    all_goals
      go_wp2_with fail
      go_ret
      exact ⟨ret_bool (by first | rfl | (simp <;> omega) | (rw [Bool.eq_iff_iff]; simp only [Bool.and_eq_true, decide_eq_true_eq]; omega)), mC⟩
set_option maxRecDepth 4000 in
set_option maxHeartbeats 6400000 in
theorem spec_IsValidCell (cs : List Value) (p q r s t y : QR) (w : World) (hv : tCell.at w cs (p, q, r, s, t, y)) (hw : wCell (p, q, r, s, t, y) ≤ 1048576) :
    Calls Tryz.prog 79 #[.agg cs.toArray] w fun e w' => e = .returned (.bool (cellB (p, q, r, s, t, y))) ∧ More w w' := by
  obtain ⟨k0, d0, rfl, f0, e0⟩ := at_prod hv
  obtain ⟨k1, d1, rfl, f1, e1⟩ := at_prod e0
  obtain ⟨k2, d2, rfl, f2, e2⟩ := at_prod e1
  obtain ⟨k3, d3, rfl, f3, e3⟩ := at_prod e2
  obtain ⟨k4, d4, rfl, f4, e4⟩ := at_prod e3
  have f5 := e4; clear e4
  have f0 : tRat.at w _ p := f0
  obtain ⟨pa, pn, pc, pd, pm, pe, rfl⟩ := sh_Rat f0
  have Hp := Lib.hid f0; clear f0
  try clear f0
  have Wp : Hid (wRat p ≤ 1048576) := Lib.hid (by unfold wCell at hw; dsimp only at hw; omega)
  have f1 : tRat.at w _ q := f1
  obtain ⟨qa, qn, qc, qd, qm, qe, rfl⟩ := sh_Rat f1
  have Hq := Lib.hid f1; clear f1
  try clear f1
  have Wq : Hid (wRat q ≤ 1048576) := Lib.hid (by unfold wCell at hw; dsimp only at hw; omega)
  have f2 : tRat.at w _ r := f2
  obtain ⟨ra, rn, rc, rd, rm, re, rfl⟩ := sh_Rat f2
  have Hr := Lib.hid f2; clear f2
  try clear f2
  have Wr : Hid (wRat r ≤ 1048576) := Lib.hid (by unfold wCell at hw; dsimp only at hw; omega)
  have f3 : tRat.at w _ s := f3
  obtain ⟨sa, sn, sc, sd, sm, se, rfl⟩ := sh_Rat f3
  have Hs := Lib.hid f3; clear f3
  try clear f3
  have Ws : Hid (wRat s ≤ 1048576) := Lib.hid (by unfold wCell at hw; dsimp only at hw; omega)
  have f4 : tRat.at w _ t := f4
  obtain ⟨ta, tn, tc, td, tm, te, rfl⟩ := sh_Rat f4
  have Ht := Lib.hid f4; clear f4
  try clear f4
  have Wt : Hid (wRat t ≤ 1048576) := Lib.hid (by unfold wCell at hw; dsimp only at hw; omega)
  have f5 : tRat.at w _ y := f5
  obtain ⟨ya, yn, yc, yd, ym, ye, rfl⟩ := sh_Rat f5
  have Hy := Lib.hid f5; clear f5
  try clear f5
  have Wy : Hid (wRat y ≤ 1048576) := Lib.hid (by unfold wCell at hw; dsimp only at hw; omega)
  clear hw
  try clear f0 f1 f2 f3 f4 f5
  try clear f0 f1 f2
  try clear e0 e1 e2 e3 e4
  try clear e0 e1
  try clear e0
  try clear hv
  show Calls Tryz.prog 79 #[.agg #[.bool p.1.1, .slice pa pn pc, .slice pd pm pe, .bool q.1.1, .slice qa qn qc, .slice qd qm qe, .bool r.1.1, .slice ra rn rc, .slice rd rm re, .bool s.1.1, .slice sa sn sc, .slice sd sm se, .bool t.1.1, .slice ta tn tc, .slice td tm te, .bool y.1.1, .slice ya yn yc, .slice yd ym ye]] w _
  rcases Bool.eq_false_or_eq_true (ratOkB p) with kp | kp
  rotate_left
  · have Kp := Lib.hid kp; clear kp
    have HX := More.refl (w.alloc (.cells #[.bool p.1.1, .slice pa pn pc, .slice pd pm pe, .bool q.1.1, .slice qa qn qc, .slice qd qm qe, .bool r.1.1, .slice ra rn rc, .slice rd rm re, .bool s.1.1, .slice sa sn sc, .slice sd sm se, .bool t.1.1, .slice ta tn tc, .slice td tm te, .bool y.1.1, .slice ya yn yc, .slice yd ym ye] 62))
    have HB := fun (w' : World) (h : More (w.alloc (.cells #[.bool p.1.1, .slice pa pn pc, .slice pd pm pe, .bool q.1.1, .slice qa qn qc, .slice qd qm qe, .bool r.1.1, .slice ra rn rc, .slice rd rm re, .bool s.1.1, .slice sa sn sc, .slice sd sm se, .bool t.1.1, .slice ta tn tc, .slice td tm te, .bool y.1.1, .slice ya yn yc, .slice yd ym ye] 62)) w') => bx18 (w.heap.size) (by simp) h
    have HC := fun (w' : World) (h : Turns [] _ w') => HB w' (Turns.more h)
    go_enter Tryz.func79, Tryz.ntmps79
    go_wp2_with (first | (go_at_call 119; (with_reducible refine (spec_RatOk p.1.1 (.slice pa pn pc) (.slice pd pm pe) p _ (Ty.at_more Hp.out mC) Wp.out).mono ?_); rintro e w1 ⟨rfl, hb1⟩; have HX1 := More.trans HX (show More _ w1 from mC); have HB1 := HB _ HX1; have hz1 := More.size HX1; (try simp at hz1); have hb1 := hb1; rw [Kp.out]))
    go_ret
    exact ⟨ret_bool (by unfold cellB; simp [Kp.out]), mC⟩
  have Kp := Lib.hid kp; clear kp
  rcases Bool.eq_false_or_eq_true (ratOkB q) with kq | kq
  rotate_left
  · have Kq := Lib.hid kq; clear kq
    have HX := More.refl (w.alloc (.cells #[.bool p.1.1, .slice pa pn pc, .slice pd pm pe, .bool q.1.1, .slice qa qn qc, .slice qd qm qe, .bool r.1.1, .slice ra rn rc, .slice rd rm re, .bool s.1.1, .slice sa sn sc, .slice sd sm se, .bool t.1.1, .slice ta tn tc, .slice td tm te, .bool y.1.1, .slice ya yn yc, .slice yd ym ye] 62))
    have HB := fun (w' : World) (h : More (w.alloc (.cells #[.bool p.1.1, .slice pa pn pc, .slice pd pm pe, .bool q.1.1, .slice qa qn qc, .slice qd qm qe, .bool r.1.1, .slice ra rn rc, .slice rd rm re, .bool s.1.1, .slice sa sn sc, .slice sd sm se, .bool t.1.1, .slice ta tn tc, .slice td tm te, .bool y.1.1, .slice ya yn yc, .slice yd ym ye] 62)) w') => bx18 (w.heap.size) (by simp) h
    have HC := fun (w' : World) (h : Turns [] _ w') => HB w' (Turns.more h)
    go_enter Tryz.func79, Tryz.ntmps79
    go_wp2_with (first | (go_at_call 119; (with_reducible refine (spec_RatOk p.1.1 (.slice pa pn pc) (.slice pd pm pe) p _ (Ty.at_more Hp.out mC) Wp.out).mono ?_); rintro e w1 ⟨rfl, hb1⟩; have HX1 := More.trans HX (show More _ w1 from mC); have HB1 := HB _ HX1; have hz1 := More.size HX1; (try simp at hz1); have hb1 := hb1; rw [Kp.out]) | (go_at_call 119; (with_reducible refine (spec_RatOk q.1.1 (.slice qa qn qc) (.slice qd qm qe) q _ (Ty.at_more Hq.out mC) Wq.out).mono ?_); rintro e w2 ⟨rfl, hb2⟩; have HX2 := More.trans HX (show More _ w2 from mC); have HB2 := HB _ HX2; have hz2 := More.size HX2; (try simp at hz2); have hb2 := hb2; rw [Kq.out]))
    go_ret
    exact ⟨ret_bool (by unfold cellB; simp [Kp.out, Kq.out]), mC⟩
  have Kq := Lib.hid kq; clear kq
  rcases Bool.eq_false_or_eq_true (ratOkB r) with kr | kr
  rotate_left
  · have Kr := Lib.hid kr; clear kr
    have HX := More.refl (w.alloc (.cells #[.bool p.1.1, .slice pa pn pc, .slice pd pm pe, .bool q.1.1, .slice qa qn qc, .slice qd qm qe, .bool r.1.1, .slice ra rn rc, .slice rd rm re, .bool s.1.1, .slice sa sn sc, .slice sd sm se, .bool t.1.1, .slice ta tn tc, .slice td tm te, .bool y.1.1, .slice ya yn yc, .slice yd ym ye] 62))
    have HB := fun (w' : World) (h : More (w.alloc (.cells #[.bool p.1.1, .slice pa pn pc, .slice pd pm pe, .bool q.1.1, .slice qa qn qc, .slice qd qm qe, .bool r.1.1, .slice ra rn rc, .slice rd rm re, .bool s.1.1, .slice sa sn sc, .slice sd sm se, .bool t.1.1, .slice ta tn tc, .slice td tm te, .bool y.1.1, .slice ya yn yc, .slice yd ym ye] 62)) w') => bx18 (w.heap.size) (by simp) h
    have HC := fun (w' : World) (h : Turns [] _ w') => HB w' (Turns.more h)
    go_enter Tryz.func79, Tryz.ntmps79
    go_wp2_with (first | (go_at_call 119; (with_reducible refine (spec_RatOk p.1.1 (.slice pa pn pc) (.slice pd pm pe) p _ (Ty.at_more Hp.out mC) Wp.out).mono ?_); rintro e w1 ⟨rfl, hb1⟩; have HX1 := More.trans HX (show More _ w1 from mC); have HB1 := HB _ HX1; have hz1 := More.size HX1; (try simp at hz1); have hb1 := hb1; rw [Kp.out]) | (go_at_call 119; (with_reducible refine (spec_RatOk q.1.1 (.slice qa qn qc) (.slice qd qm qe) q _ (Ty.at_more Hq.out mC) Wq.out).mono ?_); rintro e w2 ⟨rfl, hb2⟩; have HX2 := More.trans HX (show More _ w2 from mC); have HB2 := HB _ HX2; have hz2 := More.size HX2; (try simp at hz2); have hb2 := hb2; rw [Kq.out]) | (go_at_call 119; (with_reducible refine (spec_RatOk r.1.1 (.slice ra rn rc) (.slice rd rm re) r _ (Ty.at_more Hr.out mC) Wr.out).mono ?_); rintro e w3 ⟨rfl, hb3⟩; have HX3 := More.trans HX (show More _ w3 from mC); have HB3 := HB _ HX3; have hz3 := More.size HX3; (try simp at hz3); have hb3 := hb3; rw [Kr.out]))
    go_ret
    exact ⟨ret_bool (by unfold cellB; simp [Kp.out, Kq.out, Kr.out]), mC⟩
  have Kr := Lib.hid kr; clear kr
  rcases Bool.eq_false_or_eq_true (ratOkB s) with ks | ks
  rotate_left
  · have Ks := Lib.hid ks; clear ks
    have HX := More.refl (w.alloc (.cells #[.bool p.1.1, .slice pa pn pc, .slice pd pm pe, .bool q.1.1, .slice qa qn qc, .slice qd qm qe, .bool r.1.1, .slice ra rn rc, .slice rd rm re, .bool s.1.1, .slice sa sn sc, .slice sd sm se, .bool t.1.1, .slice ta tn tc, .slice td tm te, .bool y.1.1, .slice ya yn yc, .slice yd ym ye] 62))
    have HB := fun (w' : World) (h : More (w.alloc (.cells #[.bool p.1.1, .slice pa pn pc, .slice pd pm pe, .bool q.1.1, .slice qa qn qc, .slice qd qm qe, .bool r.1.1, .slice ra rn rc, .slice rd rm re, .bool s.1.1, .slice sa sn sc, .slice sd sm se, .bool t.1.1, .slice ta tn tc, .slice td tm te, .bool y.1.1, .slice ya yn yc, .slice yd ym ye] 62)) w') => bx18 (w.heap.size) (by simp) h
    have HC := fun (w' : World) (h : Turns [] _ w') => HB w' (Turns.more h)
    go_enter Tryz.func79, Tryz.ntmps79
    go_wp2_with (first | (go_at_call 119; (with_reducible refine (spec_RatOk p.1.1 (.slice pa pn pc) (.slice pd pm pe) p _ (Ty.at_more Hp.out mC) Wp.out).mono ?_); rintro e w1 ⟨rfl, hb1⟩; have HX1 := More.trans HX (show More _ w1 from mC); have HB1 := HB _ HX1; have hz1 := More.size HX1; (try simp at hz1); have hb1 := hb1; rw [Kp.out]) | (go_at_call 119; (with_reducible refine (spec_RatOk q.1.1 (.slice qa qn qc) (.slice qd qm qe) q _ (Ty.at_more Hq.out mC) Wq.out).mono ?_); rintro e w2 ⟨rfl, hb2⟩; have HX2 := More.trans HX (show More _ w2 from mC); have HB2 := HB _ HX2; have hz2 := More.size HX2; (try simp at hz2); have hb2 := hb2; rw [Kq.out]) | (go_at_call 119; (with_reducible refine (spec_RatOk r.1.1 (.slice ra rn rc) (.slice rd rm re) r _ (Ty.at_more Hr.out mC) Wr.out).mono ?_); rintro e w3 ⟨rfl, hb3⟩; have HX3 := More.trans HX (show More _ w3 from mC); have HB3 := HB _ HX3; have hz3 := More.size HX3; (try simp at hz3); have hb3 := hb3; rw [Kr.out]) | (go_at_call 119; (with_reducible refine (spec_RatOk s.1.1 (.slice sa sn sc) (.slice sd sm se) s _ (Ty.at_more Hs.out mC) Ws.out).mono ?_); rintro e w4 ⟨rfl, hb4⟩; have HX4 := More.trans HX (show More _ w4 from mC); have HB4 := HB _ HX4; have hz4 := More.size HX4; (try simp at hz4); have hb4 := hb4; rw [Ks.out]))
    go_ret
    exact ⟨ret_bool (by unfold cellB; simp [Kp.out, Kq.out, Kr.out, Ks.out]), mC⟩
  have Ks := Lib.hid ks; clear ks
  rcases Bool.eq_false_or_eq_true (ratOkB t) with kt | kt
  rotate_left
  · have Kt := Lib.hid kt; clear kt
    have HX := More.refl (w.alloc (.cells #[.bool p.1.1, .slice pa pn pc, .slice pd pm pe, .bool q.1.1, .slice qa qn qc, .slice qd qm qe, .bool r.1.1, .slice ra rn rc, .slice rd rm re, .bool s.1.1, .slice sa sn sc, .slice sd sm se, .bool t.1.1, .slice ta tn tc, .slice td tm te, .bool y.1.1, .slice ya yn yc, .slice yd ym ye] 62))
    have HB := fun (w' : World) (h : More (w.alloc (.cells #[.bool p.1.1, .slice pa pn pc, .slice pd pm pe, .bool q.1.1, .slice qa qn qc, .slice qd qm qe, .bool r.1.1, .slice ra rn rc, .slice rd rm re, .bool s.1.1, .slice sa sn sc, .slice sd sm se, .bool t.1.1, .slice ta tn tc, .slice td tm te, .bool y.1.1, .slice ya yn yc, .slice yd ym ye] 62)) w') => bx18 (w.heap.size) (by simp) h
    have HC := fun (w' : World) (h : Turns [] _ w') => HB w' (Turns.more h)
    go_enter Tryz.func79, Tryz.ntmps79
    go_wp2_with (first | (go_at_call 119; (with_reducible refine (spec_RatOk p.1.1 (.slice pa pn pc) (.slice pd pm pe) p _ (Ty.at_more Hp.out mC) Wp.out).mono ?_); rintro e w1 ⟨rfl, hb1⟩; have HX1 := More.trans HX (show More _ w1 from mC); have HB1 := HB _ HX1; have hz1 := More.size HX1; (try simp at hz1); have hb1 := hb1; rw [Kp.out]) | (go_at_call 119; (with_reducible refine (spec_RatOk q.1.1 (.slice qa qn qc) (.slice qd qm qe) q _ (Ty.at_more Hq.out mC) Wq.out).mono ?_); rintro e w2 ⟨rfl, hb2⟩; have HX2 := More.trans HX (show More _ w2 from mC); have HB2 := HB _ HX2; have hz2 := More.size HX2; (try simp at hz2); have hb2 := hb2; rw [Kq.out]) | (go_at_call 119; (with_reducible refine (spec_RatOk r.1.1 (.slice ra rn rc) (.slice rd rm re) r _ (Ty.at_more Hr.out mC) Wr.out).mono ?_); rintro e w3 ⟨rfl, hb3⟩; have HX3 := More.trans HX (show More _ w3 from mC); have HB3 := HB _ HX3; have hz3 := More.size HX3; (try simp at hz3); have hb3 := hb3; rw [Kr.out]) | (go_at_call 119; (with_reducible refine (spec_RatOk s.1.1 (.slice sa sn sc) (.slice sd sm se) s _ (Ty.at_more Hs.out mC) Ws.out).mono ?_); rintro e w4 ⟨rfl, hb4⟩; have HX4 := More.trans HX (show More _ w4 from mC); have HB4 := HB _ HX4; have hz4 := More.size HX4; (try simp at hz4); have hb4 := hb4; rw [Ks.out]) | (go_at_call 119; (with_reducible refine (spec_RatOk t.1.1 (.slice ta tn tc) (.slice td tm te) t _ (Ty.at_more Ht.out mC) Wt.out).mono ?_); rintro e w5 ⟨rfl, hb5⟩; have HX5 := More.trans HX (show More _ w5 from mC); have HB5 := HB _ HX5; have hz5 := More.size HX5; (try simp at hz5); have hb5 := hb5; rw [Kt.out]))
    go_ret
    exact ⟨ret_bool (by unfold cellB; simp [Kp.out, Kq.out, Kr.out, Ks.out, Kt.out]), mC⟩
  have Kt := Lib.hid kt; clear kt
  rcases Bool.eq_false_or_eq_true (ratOkB y) with ky | ky
  rotate_left
  · have Ky := Lib.hid ky; clear ky
    have HX := More.refl (w.alloc (.cells #[.bool p.1.1, .slice pa pn pc, .slice pd pm pe, .bool q.1.1, .slice qa qn qc, .slice qd qm qe, .bool r.1.1, .slice ra rn rc, .slice rd rm re, .bool s.1.1, .slice sa sn sc, .slice sd sm se, .bool t.1.1, .slice ta tn tc, .slice td tm te, .bool y.1.1, .slice ya yn yc, .slice yd ym ye] 62))
    have HB := fun (w' : World) (h : More (w.alloc (.cells #[.bool p.1.1, .slice pa pn pc, .slice pd pm pe, .bool q.1.1, .slice qa qn qc, .slice qd qm qe, .bool r.1.1, .slice ra rn rc, .slice rd rm re, .bool s.1.1, .slice sa sn sc, .slice sd sm se, .bool t.1.1, .slice ta tn tc, .slice td tm te, .bool y.1.1, .slice ya yn yc, .slice yd ym ye] 62)) w') => bx18 (w.heap.size) (by simp) h
    have HC := fun (w' : World) (h : Turns [] _ w') => HB w' (Turns.more h)
    go_enter Tryz.func79, Tryz.ntmps79
    go_wp2_with (first | (go_at_call 119; (with_reducible refine (spec_RatOk p.1.1 (.slice pa pn pc) (.slice pd pm pe) p _ (Ty.at_more Hp.out mC) Wp.out).mono ?_); rintro e w1 ⟨rfl, hb1⟩; have HX1 := More.trans HX (show More _ w1 from mC); have HB1 := HB _ HX1; have hz1 := More.size HX1; (try simp at hz1); have hb1 := hb1; rw [Kp.out]) | (go_at_call 119; (with_reducible refine (spec_RatOk q.1.1 (.slice qa qn qc) (.slice qd qm qe) q _ (Ty.at_more Hq.out mC) Wq.out).mono ?_); rintro e w2 ⟨rfl, hb2⟩; have HX2 := More.trans HX (show More _ w2 from mC); have HB2 := HB _ HX2; have hz2 := More.size HX2; (try simp at hz2); have hb2 := hb2; rw [Kq.out]) | (go_at_call 119; (with_reducible refine (spec_RatOk r.1.1 (.slice ra rn rc) (.slice rd rm re) r _ (Ty.at_more Hr.out mC) Wr.out).mono ?_); rintro e w3 ⟨rfl, hb3⟩; have HX3 := More.trans HX (show More _ w3 from mC); have HB3 := HB _ HX3; have hz3 := More.size HX3; (try simp at hz3); have hb3 := hb3; rw [Kr.out]) | (go_at_call 119; (with_reducible refine (spec_RatOk s.1.1 (.slice sa sn sc) (.slice sd sm se) s _ (Ty.at_more Hs.out mC) Ws.out).mono ?_); rintro e w4 ⟨rfl, hb4⟩; have HX4 := More.trans HX (show More _ w4 from mC); have HB4 := HB _ HX4; have hz4 := More.size HX4; (try simp at hz4); have hb4 := hb4; rw [Ks.out]) | (go_at_call 119; (with_reducible refine (spec_RatOk t.1.1 (.slice ta tn tc) (.slice td tm te) t _ (Ty.at_more Ht.out mC) Wt.out).mono ?_); rintro e w5 ⟨rfl, hb5⟩; have HX5 := More.trans HX (show More _ w5 from mC); have HB5 := HB _ HX5; have hz5 := More.size HX5; (try simp at hz5); have hb5 := hb5; rw [Kt.out]) | (go_at_call 119; (with_reducible refine (spec_RatOk y.1.1 (.slice ya yn yc) (.slice yd ym ye) y _ (Ty.at_more Hy.out mC) Wy.out).mono ?_); rintro e w6 ⟨rfl, hb6⟩; have HX6 := More.trans HX (show More _ w6 from mC); have HB6 := HB _ HX6; have hz6 := More.size HX6; (try simp at hz6); have hb6 := hb6; rw [Ky.out]))
    go_ret
    exact ⟨ret_bool (by unfold cellB; simp [Kp.out, Kq.out, Kr.out, Ks.out, Kt.out, Ky.out]), mC⟩
  have Ky := Lib.hid ky; clear ky
  obtain ⟨c, ch⟩ : ∃ c, rCmp p q = c := ⟨_, rfl⟩
  obtain ⟨cl, cu⟩ : -1 ≤ c ∧ c ≤ 1 := by rw [← ch]; exact rCmp_range _ _
  have C := Lib.hid ch; clear ch
  obtain ⟨d, dh⟩ : ∃ c, rCmp r t = c := ⟨_, rfl⟩
  obtain ⟨dl, du⟩ : -1 ≤ d ∧ d ≤ 1 := by rw [← dh]; exact rCmp_range _ _
  have D := Lib.hid dh; clear dh
  obtain ⟨e0, e0h⟩ : ∃ c, rCmp s y = c := ⟨_, rfl⟩
  obtain ⟨e0l, e0u⟩ : -1 ≤ e0 ∧ e0 ≤ 1 := by rw [← e0h]; exact rCmp_range _ _
  have E := Lib.hid e0h; clear e0h
  have EE : Hid (cellB (p, q, r, s, t, y) = (decide (c < 0) && (decide (d ≤ 0) && (decide (e0 ≤ 0) && decide (d + e0 < 0))))) := Lib.hid (by unfold cellB; dsimp only; rw [C.out, D.out, E.out]; simp [Kp.out, Kq.out, Kr.out, Ks.out, Kt.out, Ky.out])
  rw [EE.out]
  rcases (show c < 0 ∨ 0 ≤ c by omega) with hc | hc
  rotate_left
  · skip
    have HX := More.refl (w.alloc (.cells #[.bool p.1.1, .slice pa pn pc, .slice pd pm pe, .bool q.1.1, .slice qa qn qc, .slice qd qm qe, .bool r.1.1, .slice ra rn rc, .slice rd rm re, .bool s.1.1, .slice sa sn sc, .slice sd sm se, .bool t.1.1, .slice ta tn tc, .slice td tm te, .bool y.1.1, .slice ya yn yc, .slice yd ym ye] 62))
    have HB := fun (w' : World) (h : More (w.alloc (.cells #[.bool p.1.1, .slice pa pn pc, .slice pd pm pe, .bool q.1.1, .slice qa qn qc, .slice qd qm qe, .bool r.1.1, .slice ra rn rc, .slice rd rm re, .bool s.1.1, .slice sa sn sc, .slice sd sm se, .bool t.1.1, .slice ta tn tc, .slice td tm te, .bool y.1.1, .slice ya yn yc, .slice yd ym ye] 62)) w') => bx18 (w.heap.size) (by simp) h
    have HC := fun (w' : World) (h : Turns [] _ w') => HB w' (Turns.more h)
    go_enter Tryz.func79, Tryz.ntmps79
    go_wp2_with (first | (go_at_call 119; (with_reducible refine (spec_RatOk p.1.1 (.slice pa pn pc) (.slice pd pm pe) p _ (Ty.at_more Hp.out mC) Wp.out).mono ?_); rintro e w1 ⟨rfl, hb1⟩; have HX1 := More.trans HX (show More _ w1 from mC); have HB1 := HB _ HX1; have hz1 := More.size HX1; (try simp at hz1); have hb1 := hb1; rw [Kp.out]) | (go_at_call 119; (with_reducible refine (spec_RatOk q.1.1 (.slice qa qn qc) (.slice qd qm qe) q _ (Ty.at_more Hq.out mC) Wq.out).mono ?_); rintro e w2 ⟨rfl, hb2⟩; have HX2 := More.trans HX (show More _ w2 from mC); have HB2 := HB _ HX2; have hz2 := More.size HX2; (try simp at hz2); have hb2 := hb2; rw [Kq.out]) | (go_at_call 119; (with_reducible refine (spec_RatOk r.1.1 (.slice ra rn rc) (.slice rd rm re) r _ (Ty.at_more Hr.out mC) Wr.out).mono ?_); rintro e w3 ⟨rfl, hb3⟩; have HX3 := More.trans HX (show More _ w3 from mC); have HB3 := HB _ HX3; have hz3 := More.size HX3; (try simp at hz3); have hb3 := hb3; rw [Kr.out]) | (go_at_call 119; (with_reducible refine (spec_RatOk s.1.1 (.slice sa sn sc) (.slice sd sm se) s _ (Ty.at_more Hs.out mC) Ws.out).mono ?_); rintro e w4 ⟨rfl, hb4⟩; have HX4 := More.trans HX (show More _ w4 from mC); have HB4 := HB _ HX4; have hz4 := More.size HX4; (try simp at hz4); have hb4 := hb4; rw [Ks.out]) | (go_at_call 119; (with_reducible refine (spec_RatOk t.1.1 (.slice ta tn tc) (.slice td tm te) t _ (Ty.at_more Ht.out mC) Wt.out).mono ?_); rintro e w5 ⟨rfl, hb5⟩; have HX5 := More.trans HX (show More _ w5 from mC); have HB5 := HB _ HX5; have hz5 := More.size HX5; (try simp at hz5); have hb5 := hb5; rw [Kt.out]) | (go_at_call 119; (with_reducible refine (spec_RatOk y.1.1 (.slice ya yn yc) (.slice yd ym ye) y _ (Ty.at_more Hy.out mC) Wy.out).mono ?_); rintro e w6 ⟨rfl, hb6⟩; have HX6 := More.trans HX (show More _ w6 from mC); have HB6 := HB _ HX6; have hz6 := More.size HX6; (try simp at hz6); have hb6 := hb6; rw [Ky.out]) | (go_at_call 46; (with_reducible refine (spec_RatCmpX p p.1.1 (.slice pa pn pc) (.slice pd pm pe) q q.1.1 (.slice qa qn qc) (.slice qd qm qe) _ (Ty.at_more Hp.out mC) Wp.out (Ty.at_more Hq.out mC) Wq.out).mono ?_); rintro e w7 ⟨rfl, hb7⟩; have HX7 := More.trans HX (show More _ w7 from mC); have HB7 := HB _ HX7; have hz7 := More.size HX7; (try simp at hz7); have hb7 := hb7; rw [C.out]) | (go_at_call 46; (with_reducible refine (spec_RatCmpX r r.1.1 (.slice ra rn rc) (.slice rd rm re) t t.1.1 (.slice ta tn tc) (.slice td tm te) _ (Ty.at_more Hr.out mC) Wr.out (Ty.at_more Ht.out mC) Wt.out).mono ?_); rintro e w8 ⟨rfl, hb8⟩; have HX8 := More.trans HX (show More _ w8 from mC); have HB8 := HB _ HX8; have hz8 := More.size HX8; (try simp at hz8); have hb8 := hb8; rw [D.out]) | (go_at_call 46; (with_reducible refine (spec_RatCmpX s s.1.1 (.slice sa sn sc) (.slice sd sm se) y y.1.1 (.slice ya yn yc) (.slice yd ym ye) _ (Ty.at_more Hs.out mC) Ws.out (Ty.at_more Hy.out mC) Wy.out).mono ?_); rintro e w9 ⟨rfl, hb9⟩; have HX9 := More.trans HX (show More _ w9 from mC); have HB9 := HB _ HX9; have hz9 := More.size HX9; (try simp at hz9); have hb9 := hb9; rw [E.out]))
    skip
    go_ret
    exact ⟨ret_bool (by first | rfl | (simp <;> omega) | (rw [Bool.eq_iff_iff]; simp only [Bool.and_eq_true, decide_eq_true_eq]; omega)), mC⟩
  rcases (show d < 0 ∨ d = 0 ∨ 0 < d by omega) with hd | hd | hd
  all_goals
    rcases (show e0 < 0 ∨ e0 = 0 ∨ 0 < e0 by omega) with he | he | he
  all_goals
    have HX := More.refl (w.alloc (.cells #[.bool p.1.1, .slice pa pn pc, .slice pd pm pe, .bool q.1.1, .slice qa qn qc, .slice qd qm qe, .bool r.1.1, .slice ra rn rc, .slice rd rm re, .bool s.1.1, .slice sa sn sc, .slice sd sm se, .bool t.1.1, .slice ta tn tc, .slice td tm te, .bool y.1.1, .slice ya yn yc, .slice yd ym ye] 62))
    have HB := fun (w' : World) (h : More (w.alloc (.cells #[.bool p.1.1, .slice pa pn pc, .slice pd pm pe, .bool q.1.1, .slice qa qn qc, .slice qd qm qe, .bool r.1.1, .slice ra rn rc, .slice rd rm re, .bool s.1.1, .slice sa sn sc, .slice sd sm se, .bool t.1.1, .slice ta tn tc, .slice td tm te, .bool y.1.1, .slice ya yn yc, .slice yd ym ye] 62)) w') => bx18 (w.heap.size) (by simp) h
    have HC := fun (w' : World) (h : Turns [] _ w') => HB w' (Turns.more h)
    go_enter Tryz.func79, Tryz.ntmps79
    go_wp2_with (first | (go_at_call 119; (with_reducible refine (spec_RatOk p.1.1 (.slice pa pn pc) (.slice pd pm pe) p _ (Ty.at_more Hp.out mC) Wp.out).mono ?_); rintro e w1 ⟨rfl, hb1⟩; have HX1 := More.trans HX (show More _ w1 from mC); have HB1 := HB _ HX1; have hz1 := More.size HX1; (try simp at hz1); have hb1 := hb1; rw [Kp.out]) | (go_at_call 119; (with_reducible refine (spec_RatOk q.1.1 (.slice qa qn qc) (.slice qd qm qe) q _ (Ty.at_more Hq.out mC) Wq.out).mono ?_); rintro e w2 ⟨rfl, hb2⟩; have HX2 := More.trans HX (show More _ w2 from mC); have HB2 := HB _ HX2; have hz2 := More.size HX2; (try simp at hz2); have hb2 := hb2; rw [Kq.out]) | (go_at_call 119; (with_reducible refine (spec_RatOk r.1.1 (.slice ra rn rc) (.slice rd rm re) r _ (Ty.at_more Hr.out mC) Wr.out).mono ?_); rintro e w3 ⟨rfl, hb3⟩; have HX3 := More.trans HX (show More _ w3 from mC); have HB3 := HB _ HX3; have hz3 := More.size HX3; (try simp at hz3); have hb3 := hb3; rw [Kr.out]) | (go_at_call 119; (with_reducible refine (spec_RatOk s.1.1 (.slice sa sn sc) (.slice sd sm se) s _ (Ty.at_more Hs.out mC) Ws.out).mono ?_); rintro e w4 ⟨rfl, hb4⟩; have HX4 := More.trans HX (show More _ w4 from mC); have HB4 := HB _ HX4; have hz4 := More.size HX4; (try simp at hz4); have hb4 := hb4; rw [Ks.out]) | (go_at_call 119; (with_reducible refine (spec_RatOk t.1.1 (.slice ta tn tc) (.slice td tm te) t _ (Ty.at_more Ht.out mC) Wt.out).mono ?_); rintro e w5 ⟨rfl, hb5⟩; have HX5 := More.trans HX (show More _ w5 from mC); have HB5 := HB _ HX5; have hz5 := More.size HX5; (try simp at hz5); have hb5 := hb5; rw [Kt.out]) | (go_at_call 119; (with_reducible refine (spec_RatOk y.1.1 (.slice ya yn yc) (.slice yd ym ye) y _ (Ty.at_more Hy.out mC) Wy.out).mono ?_); rintro e w6 ⟨rfl, hb6⟩; have HX6 := More.trans HX (show More _ w6 from mC); have HB6 := HB _ HX6; have hz6 := More.size HX6; (try simp at hz6); have hb6 := hb6; rw [Ky.out]) | (go_at_call 46; (with_reducible refine (spec_RatCmpX p p.1.1 (.slice pa pn pc) (.slice pd pm pe) q q.1.1 (.slice qa qn qc) (.slice qd qm qe) _ (Ty.at_more Hp.out mC) Wp.out (Ty.at_more Hq.out mC) Wq.out).mono ?_); rintro e w7 ⟨rfl, hb7⟩; have HX7 := More.trans HX (show More _ w7 from mC); have HB7 := HB _ HX7; have hz7 := More.size HX7; (try simp at hz7); have hb7 := hb7; rw [C.out]) | (go_at_call 46; (with_reducible refine (spec_RatCmpX r r.1.1 (.slice ra rn rc) (.slice rd rm re) t t.1.1 (.slice ta tn tc) (.slice td tm te) _ (Ty.at_more Hr.out mC) Wr.out (Ty.at_more Ht.out mC) Wt.out).mono ?_); rintro e w8 ⟨rfl, hb8⟩; have HX8 := More.trans HX (show More _ w8 from mC); have HB8 := HB _ HX8; have hz8 := More.size HX8; (try simp at hz8); have hb8 := hb8; rw [D.out]) | (go_at_call 46; (with_reducible refine (spec_RatCmpX s s.1.1 (.slice sa sn sc) (.slice sd sm se) y y.1.1 (.slice ya yn yc) (.slice yd ym ye) _ (Ty.at_more Hs.out mC) Ws.out (Ty.at_more Hy.out mC) Wy.out).mono ?_); rintro e w9 ⟨rfl, hb9⟩; have HX9 := More.trans HX (show More _ w9 from mC); have HB9 := HB _ HX9; have hz9 := More.size HX9; (try simp at hz9); have hb9 := hb9; rw [E.out]))
    skip
    go_ret
    exact ⟨ret_bool (by first | rfl | (simp <;> omega) | (rw [Bool.eq_iff_iff]; simp only [Bool.and_eq_true, decide_eq_true_eq]; omega)), mC⟩
end Go.Proofs.YteihkhniibncnaaGreat
