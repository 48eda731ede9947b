/- Points in walls. -/
import Derived.Test.YteihkhniibncnaaGreatThn
import Derived.Test.YteihkhniibncnaaGreatWal
import Derived.Test.YteihkhniibncnaaGreatPnt
import Derived.Test.YteihkhniibncnaaGreatEqFr
namespace Go.Proofs.YteihkhniibncnaaGreat
open Go.RowKit
noncomputable def inWallB (x : QWall) (y : QP) : Bool := decide (y.1 = x.1) && (decide (0 < rCmp y.2 x.2.1) && decide (rCmp y.2 x.2.2 < 0))
noncomputable def InWallB (x : QWall) (y : QP) : Bool := wallB x && (pointB y && inWallB x y)
set_option maxRecDepth 4000 in
set_option maxHeartbeats 6400000 in
theorem impl_inWall (cs0 : List Value) (p q r : QR) (cs1 : List Value) (s t : QR) (w : World) (hv0 : tWall.at w cs0 (p, q, r)) (hw0 : wWall (p, q, r) ≤ 1048576) (hv1 : tPoint.at w cs1 (s, t)) (hw1 : wPoint (s, t) ≤ 1048576) (kp : ratOkB p = true) (kq : ratOkB q = true) (kr : ratOkB r = true) (ks : ratOkB s = true) (kt : ratOkB t = true) :
    Calls Tryz.prog 154 #[.agg cs0.toArray, .agg cs1.toArray] w fun e w' => e = .returned (.bool (inWallB (p, q, r) (s, t))) ∧ More w w' := by
  obtain ⟨k0, d0, rfl, f0, e0⟩ := at_prod hv0
  obtain ⟨k1, d1, rfl, f1, e1⟩ := at_prod e0
  have f2 := e1; clear e1
  have f0 : tRat.at w _ p := f0
  obtain ⟨pa, pn, pc, pd, pm, pe, rfl⟩ := sh_Rat f0
  have Hp := Lib.hid f0; clear f0
  try clear f0
  have Wp : Hid (wRat p ≤ 1048576) := Lib.hid (by have h := hw0; unfold wWall at h; dsimp only at h; omega)
  have f1 : tRat.at w _ q := f1
  obtain ⟨qa, qn, qc, qd, qm, qe, rfl⟩ := sh_Rat f1
  have Hq := Lib.hid f1; clear f1
  try clear f1
  have Wq : Hid (wRat q ≤ 1048576) := Lib.hid (by have h := hw0; unfold wWall at h; dsimp only at h; omega)
  have f2 : tRat.at w _ r := f2
  obtain ⟨ra, rn, rc, rd, rm, re, rfl⟩ := sh_Rat f2
  have Hr := Lib.hid f2; clear f2
  try clear f2
  have Wr : Hid (wRat r ≤ 1048576) := Lib.hid (by have h := hw0; unfold wWall at h; dsimp only at h; omega)
  try clear e0 e1 e2
  have HV0 : Hid (tWall.at w [.bool p.1.1, .slice pa pn pc, .slice pd pm pe, .bool q.1.1, .slice qa qn qc, .slice qd qm qe, .bool r.1.1, .slice ra rn rc, .slice rd rm re] (p, q, r)) := Lib.hid hv0; have HW0 := Lib.hid hw0; clear hv0 hw0
  obtain ⟨k0, d0, rfl, f0, e0⟩ := at_prod hv1
  have f1 := e0; clear e0
  have f0 : tRat.at w _ s := f0
  obtain ⟨sa, sn, sc, sd, sm, se, rfl⟩ := sh_Rat f0
  have Hs := Lib.hid f0; clear f0
  try clear f0
  have Ws : Hid (wRat s ≤ 1048576) := Lib.hid (by have h := hw1; unfold wPoint at h; dsimp only at h; omega)
  have f1 : tRat.at w _ t := f1
  obtain ⟨ta, tn, tc, td, tm, te, rfl⟩ := sh_Rat f1
  have Ht := Lib.hid f1; clear f1
  try clear f1
  have Wt : Hid (wRat t ≤ 1048576) := Lib.hid (by have h := hw1; unfold wPoint at h; dsimp only at h; omega)
  try clear e0 e1
  have HV1 : Hid (tPoint.at w [.bool s.1.1, .slice sa sn sc, .slice sd sm se, .bool t.1.1, .slice ta tn tc, .slice td tm te] (s, t)) := Lib.hid hv1; have HW1 := Lib.hid hw1; clear hv1 hw1
  have Kp := Lib.hid kp; have Kq := Lib.hid kq; have Kr := Lib.hid kr; have Ks := Lib.hid ks; have Kt := Lib.hid kt; clear kp kq kr ks kt
  show Calls Tryz.prog 154 #[.agg #[.bool p.1.1, .slice pa pn pc, .slice pd pm pe, .bool q.1.1, .slice qa qn qc, .slice qd qm qe, .bool r.1.1, .slice ra rn rc, .slice rd rm re], .agg #[.bool s.1.1, .slice sa sn sc, .slice sd sm se, .bool t.1.1, .slice ta tn tc, .slice td tm te]] w _
  rcases Bool.eq_false_or_eq_true (decide (s = p)) with E0k | E0k
  rotate_left
  · have E0 := Lib.hid E0k; clear E0k
    have HX := More.refl ((w.alloc (.cells #[.bool p.1.1, .slice pa pn pc, .slice pd pm pe, .bool q.1.1, .slice qa qn qc, .slice qd qm qe, .bool r.1.1, .slice ra rn rc, .slice rd rm re] 50)).alloc (.cells #[.bool s.1.1, .slice sa sn sc, .slice sd sm se, .bool t.1.1, .slice ta tn tc, .slice td tm te] 47))
    have HB := fun (w' : World) (h : More ((w.alloc (.cells #[.bool p.1.1, .slice pa pn pc, .slice pd pm pe, .bool q.1.1, .slice qa qn qc, .slice qd qm qe, .bool r.1.1, .slice ra rn rc, .slice rd rm re] 50)).alloc (.cells #[.bool s.1.1, .slice sa sn sc, .slice sd sm se, .bool t.1.1, .slice ta tn tc, .slice td tm te] 47)) w') => And.intro (bx9 (w.heap.size) (by simp) (More.un h)) (bx6 (w.heap.size + 1) (by simp) h)
    go_enter Tryz.func154, Tryz.ntmps154
    go_wp2_with (first | (go_at_call 192; (with_reducible refine (impl_RatEqual [.bool s.1.1, .slice sa sn sc, .slice sd sm se] [.bool p.1.1, .slice pa pn pc, .slice pd pm pe] s p _ (Ty.at_more Hs.out mC) (Ty.at_more Hp.out mC) Ws.out Wp.out).mono ?_); rintro e w1 ⟨rfl, hb1⟩; have HX1 := More.trans HX (show More _ w1 from mC); have HB1 := HB _ HX1; have hz1 := More.size HX1; (try simp at hz1); have hb1 := hb1; rw [E0.out]))
    skip
    go_ret
    exact ⟨ret_bool (by simp [inWallB, E0.out]), mC⟩
  have E0 := Lib.hid E0k; clear E0k
  obtain ⟨c0, c0h⟩ : ∃ c, rCmp t q = c := ⟨_, rfl⟩
  obtain ⟨c0l, c0u⟩ : -1 ≤ c0 ∧ c0 ≤ 1 := by rw [← c0h]; exact rCmp_range _ _
  have C := Lib.hid c0h; clear c0h
  rcases (show 0 < c0 ∨ c0 ≤ 0 by omega) with hC | hC
  rotate_left
  · skip
    have HX := More.refl ((w.alloc (.cells #[.bool p.1.1, .slice pa pn pc, .slice pd pm pe, .bool q.1.1, .slice qa qn qc, .slice qd qm qe, .bool r.1.1, .slice ra rn rc, .slice rd rm re] 50)).alloc (.cells #[.bool s.1.1, .slice sa sn sc, .slice sd sm se, .bool t.1.1, .slice ta tn tc, .slice td tm te] 47))
    have HB := fun (w' : World) (h : More ((w.alloc (.cells #[.bool p.1.1, .slice pa pn pc, .slice pd pm pe, .bool q.1.1, .slice qa qn qc, .slice qd qm qe, .bool r.1.1, .slice ra rn rc, .slice rd rm re] 50)).alloc (.cells #[.bool s.1.1, .slice sa sn sc, .slice sd sm se, .bool t.1.1, .slice ta tn tc, .slice td tm te] 47)) w') => And.intro (bx9 (w.heap.size) (by simp) (More.un h)) (bx6 (w.heap.size + 1) (by simp) h)
    go_enter Tryz.func154, Tryz.ntmps154
    go_wp2_with (first | (go_at_call 192; (with_reducible refine (impl_RatEqual [.bool s.1.1, .slice sa sn sc, .slice sd sm se] [.bool p.1.1, .slice pa pn pc, .slice pd pm pe] s p _ (Ty.at_more Hs.out mC) (Ty.at_more Hp.out mC) Ws.out Wp.out).mono ?_); rintro e w1 ⟨rfl, hb1⟩; have HX1 := More.trans HX (show More _ w1 from mC); have HB1 := HB _ HX1; have hz1 := More.size HX1; (try simp at hz1); have hb1 := hb1; rw [E0.out]) | (go_at_call 134; (with_reducible refine (impl_ratCmpX t t.1.1 (.slice ta tn tc) (.slice td tm te) q q.1.1 (.slice qa qn qc) (.slice qd qm qe) _ Kt.out Kq.out (Ty.at_more Ht.out mC) (Ty.at_more Hq.out mC)).mono ?_); rintro e w2 ⟨rfl, hb2⟩; have HX2 := More.trans HX (show More _ w2 from mC); have HB2 := HB _ HX2; have hz2 := More.size HX2; (try simp at hz2); have hb2 := hb2; rw [C.out]))
    skip
    go_ret
    exact ⟨ret_bool (by first | (simp [inWallB, E0.out, C.out]; done) | (simp [inWallB, E0.out, C.out] <;> omega)), mC⟩
  obtain ⟨d0, d0h⟩ : ∃ c, rCmp t r = c := ⟨_, rfl⟩
  obtain ⟨d0l, d0u⟩ : -1 ≤ d0 ∧ d0 ≤ 1 := by rw [← d0h]; exact rCmp_range _ _
  have D := Lib.hid d0h; clear d0h
  rcases (show d0 < 0 ∨ 0 ≤ d0 by omega) with hD | hD
  rotate_left
  · skip
    have HX := More.refl ((w.alloc (.cells #[.bool p.1.1, .slice pa pn pc, .slice pd pm pe, .bool q.1.1, .slice qa qn qc, .slice qd qm qe, .bool r.1.1, .slice ra rn rc, .slice rd rm re] 50)).alloc (.cells #[.bool s.1.1, .slice sa sn sc, .slice sd sm se, .bool t.1.1, .slice ta tn tc, .slice td tm te] 47))
    have HB := fun (w' : World) (h : More ((w.alloc (.cells #[.bool p.1.1, .slice pa pn pc, .slice pd pm pe, .bool q.1.1, .slice qa qn qc, .slice qd qm qe, .bool r.1.1, .slice ra rn rc, .slice rd rm re] 50)).alloc (.cells #[.bool s.1.1, .slice sa sn sc, .slice sd sm se, .bool t.1.1, .slice ta tn tc, .slice td tm te] 47)) w') => And.intro (bx9 (w.heap.size) (by simp) (More.un h)) (bx6 (w.heap.size + 1) (by simp) h)
    go_enter Tryz.func154, Tryz.ntmps154
    go_wp2_with (first | (go_at_call 192; (with_reducible refine (impl_RatEqual [.bool s.1.1, .slice sa sn sc, .slice sd sm se] [.bool p.1.1, .slice pa pn pc, .slice pd pm pe] s p _ (Ty.at_more Hs.out mC) (Ty.at_more Hp.out mC) Ws.out Wp.out).mono ?_); rintro e w1 ⟨rfl, hb1⟩; have HX1 := More.trans HX (show More _ w1 from mC); have HB1 := HB _ HX1; have hz1 := More.size HX1; (try simp at hz1); have hb1 := hb1; rw [E0.out]) | (go_at_call 134; (with_reducible refine (impl_ratCmpX t t.1.1 (.slice ta tn tc) (.slice td tm te) q q.1.1 (.slice qa qn qc) (.slice qd qm qe) _ Kt.out Kq.out (Ty.at_more Ht.out mC) (Ty.at_more Hq.out mC)).mono ?_); rintro e w2 ⟨rfl, hb2⟩; have HX2 := More.trans HX (show More _ w2 from mC); have HB2 := HB _ HX2; have hz2 := More.size HX2; (try simp at hz2); have hb2 := hb2; rw [C.out]) | (go_at_call 134; (with_reducible refine (impl_ratCmpX t t.1.1 (.slice ta tn tc) (.slice td tm te) r r.1.1 (.slice ra rn rc) (.slice rd rm re) _ Kt.out Kr.out (Ty.at_more Ht.out mC) (Ty.at_more Hr.out mC)).mono ?_); rintro e w3 ⟨rfl, hb3⟩; have HX3 := More.trans HX (show More _ w3 from mC); have HB3 := HB _ HX3; have hz3 := More.size HX3; (try simp at hz3); have hb3 := hb3; rw [D.out]))
    skip
    go_ret
    exact ⟨ret_bool (by first | (simp [inWallB, E0.out, C.out, D.out]; done) | (simp [inWallB, E0.out, C.out, D.out] <;> omega)), mC⟩
  have HX := More.refl ((w.alloc (.cells #[.bool p.1.1, .slice pa pn pc, .slice pd pm pe, .bool q.1.1, .slice qa qn qc, .slice qd qm qe, .bool r.1.1, .slice ra rn rc, .slice rd rm re] 50)).alloc (.cells #[.bool s.1.1, .slice sa sn sc, .slice sd sm se, .bool t.1.1, .slice ta tn tc, .slice td tm te] 47))
  have HB := fun (w' : World) (h : More ((w.alloc (.cells #[.bool p.1.1, .slice pa pn pc, .slice pd pm pe, .bool q.1.1, .slice qa qn qc, .slice qd qm qe, .bool r.1.1, .slice ra rn rc, .slice rd rm re] 50)).alloc (.cells #[.bool s.1.1, .slice sa sn sc, .slice sd sm se, .bool t.1.1, .slice ta tn tc, .slice td tm te] 47)) w') => And.intro (bx9 (w.heap.size) (by simp) (More.un h)) (bx6 (w.heap.size + 1) (by simp) h)
  go_enter Tryz.func154, Tryz.ntmps154
  go_wp2_with (first | (go_at_call 192; (with_reducible refine (impl_RatEqual [.bool s.1.1, .slice sa sn sc, .slice sd sm se] [.bool p.1.1, .slice pa pn pc, .slice pd pm pe] s p _ (Ty.at_more Hs.out mC) (Ty.at_more Hp.out mC) Ws.out Wp.out).mono ?_); rintro e w1 ⟨rfl, hb1⟩; have HX1 := More.trans HX (show More _ w1 from mC); have HB1 := HB _ HX1; have hz1 := More.size HX1; (try simp at hz1); have hb1 := hb1; rw [E0.out]) | (go_at_call 134; (with_reducible refine (impl_ratCmpX t t.1.1 (.slice ta tn tc) (.slice td tm te) q q.1.1 (.slice qa qn qc) (.slice qd qm qe) _ Kt.out Kq.out (Ty.at_more Ht.out mC) (Ty.at_more Hq.out mC)).mono ?_); rintro e w2 ⟨rfl, hb2⟩; have HX2 := More.trans HX (show More _ w2 from mC); have HB2 := HB _ HX2; have hz2 := More.size HX2; (try simp at hz2); have hb2 := hb2; rw [C.out]) | (go_at_call 134; (with_reducible refine (impl_ratCmpX t t.1.1 (.slice ta tn tc) (.slice td tm te) r r.1.1 (.slice ra rn rc) (.slice rd rm re) _ Kt.out Kr.out (Ty.at_more Ht.out mC) (Ty.at_more Hr.out mC)).mono ?_); rintro e w3 ⟨rfl, hb3⟩; have HX3 := More.trans HX (show More _ w3 from mC); have HB3 := HB _ HX3; have hz3 := More.size HX3; (try simp at hz3); have hb3 := hb3; rw [D.out]))
  skip
  go_ret
  exact ⟨ret_bool (by first | (simp [inWallB, E0.out, C.out, D.out]; done) | (simp [inWallB, E0.out, C.out, D.out] <;> omega)), mC⟩

theorem wallB_parts {p q r : QR} (h : wallB (p, q, r) = true) : ratOkB p = true ∧ ratOkB q = true ∧ ratOkB r = true := by
  unfold wallB at h
  simp only [List.all_cons, List.all_nil, Bool.and_true, Bool.and_eq_true] at h
  exact ⟨h.1.1, h.1.2.1, h.1.2.2⟩
set_option maxRecDepth 4000 in
set_option maxHeartbeats 6400000 in
theorem impl_InWall (cs0 : List Value) (p q r : QR) (cs1 : List Value) (s t : QR) (w : World) (hv0 : tWall.at w cs0 (p, q, r)) (hw0 : wWall (p, q, r) ≤ 1048576) (hv1 : tPoint.at w cs1 (s, t)) (hw1 : wPoint (s, t) ≤ 1048576) :
    Calls Tryz.prog 103 #[.agg cs0.toArray, .agg cs1.toArray] w fun e w' => e = .returned (.bool (InWallB (p, q, r) (s, t))) ∧ More w w' := by
  obtain ⟨k0, d0, rfl, f0, e0⟩ := at_prod hv0
  obtain ⟨k1, d1, rfl, f1, e1⟩ := at_prod e0
  have f2 := e1; clear e1
  have f0 : tRat.at w _ p := f0
  obtain ⟨pa, pn, pc, pd, pm, pe, rfl⟩ := sh_Rat f0
  have Hp := Lib.hid f0; clear f0
  try clear f0
  have Wp : Hid (wRat p ≤ 1048576) := Lib.hid (by have h := hw0; unfold wWall at h; dsimp only at h; omega)
  have f1 : tRat.at w _ q := f1
  obtain ⟨qa, qn, qc, qd, qm, qe, rfl⟩ := sh_Rat f1
  have Hq := Lib.hid f1; clear f1
  try clear f1
  have Wq : Hid (wRat q ≤ 1048576) := Lib.hid (by have h := hw0; unfold wWall at h; dsimp only at h; omega)
  have f2 : tRat.at w _ r := f2
  obtain ⟨ra, rn, rc, rd, rm, re, rfl⟩ := sh_Rat f2
  have Hr := Lib.hid f2; clear f2
  try clear f2
  have Wr : Hid (wRat r ≤ 1048576) := Lib.hid (by have h := hw0; unfold wWall at h; dsimp only at h; omega)
  try clear e0 e1 e2
  have HV0 : Hid (tWall.at w [.bool p.1.1, .slice pa pn pc, .slice pd pm pe, .bool q.1.1, .slice qa qn qc, .slice qd qm qe, .bool r.1.1, .slice ra rn rc, .slice rd rm re] (p, q, r)) := Lib.hid hv0; have HW0 := Lib.hid hw0; clear hv0 hw0
  obtain ⟨k0, d0, rfl, f0, e0⟩ := at_prod hv1
  have f1 := e0; clear e0
  have f0 : tRat.at w _ s := f0
  obtain ⟨sa, sn, sc, sd, sm, se, rfl⟩ := sh_Rat f0
  have Hs := Lib.hid f0; clear f0
  try clear f0
  have Ws : Hid (wRat s ≤ 1048576) := Lib.hid (by have h := hw1; unfold wPoint at h; dsimp only at h; omega)
  have f1 : tRat.at w _ t := f1
  obtain ⟨ta, tn, tc, td, tm, te, rfl⟩ := sh_Rat f1
  have Ht := Lib.hid f1; clear f1
  try clear f1
  have Wt : Hid (wRat t ≤ 1048576) := Lib.hid (by have h := hw1; unfold wPoint at h; dsimp only at h; omega)
  try clear e0 e1
  have HV1 : Hid (tPoint.at w [.bool s.1.1, .slice sa sn sc, .slice sd sm se, .bool t.1.1, .slice ta tn tc, .slice td tm te] (s, t)) := Lib.hid hv1; have HW1 := Lib.hid hw1; clear hv1 hw1
  show Calls Tryz.prog 103 #[.agg #[.bool p.1.1, .slice pa pn pc, .slice pd pm pe, .bool q.1.1, .slice qa qn qc, .slice qd qm qe, .bool r.1.1, .slice ra rn rc, .slice rd rm re], .agg #[.bool s.1.1, .slice sa sn sc, .slice sd sm se, .bool t.1.1, .slice ta tn tc, .slice td tm te]] w _
  rcases Bool.eq_false_or_eq_true (wallB (p, q, r)) with KWk | KWk
  rotate_left
  · have KW := Lib.hid KWk; clear KWk
    have HX := More.refl ((w.alloc (.cells #[.bool p.1.1, .slice pa pn pc, .slice pd pm pe, .bool q.1.1, .slice qa qn qc, .slice qd qm qe, .bool r.1.1, .slice ra rn rc, .slice rd rm re] 50)).alloc (.cells #[.bool s.1.1, .slice sa sn sc, .slice sd sm se, .bool t.1.1, .slice ta tn tc, .slice td tm te] 47))
    have HB := fun (w' : World) (h : More ((w.alloc (.cells #[.bool p.1.1, .slice pa pn pc, .slice pd pm pe, .bool q.1.1, .slice qa qn qc, .slice qd qm qe, .bool r.1.1, .slice ra rn rc, .slice rd rm re] 50)).alloc (.cells #[.bool s.1.1, .slice sa sn sc, .slice sd sm se, .bool t.1.1, .slice ta tn tc, .slice td tm te] 47)) w') => And.intro (bx9 (w.heap.size) (by simp) (More.un h)) (bx6 (w.heap.size + 1) (by simp) h)
    go_enter Tryz.func103, Tryz.ntmps103
    go_wp2_with (first | (go_at_call 74; (with_reducible refine (impl_IsValidWall [.bool p.1.1, .slice pa pn pc, .slice pd pm pe, .bool q.1.1, .slice qa qn qc, .slice qd qm qe, .bool r.1.1, .slice ra rn rc, .slice rd rm re] p q r _ (Ty.at_more HV0.out mC) HW0.out).mono ?_); rintro e w1 ⟨rfl, hb1⟩; have HX1 := More.trans HX (show More _ w1 from mC); have HB1 := HB _ HX1; have hz1 := More.size HX1; (try simp at hz1); have hb1 := hb1; rw [KW.out]))
    skip
    go_ret
    exact ⟨ret_bool (by simp [InWallB, KW.out]), mC⟩
  have KW := Lib.hid KWk; clear KWk
  rcases Bool.eq_false_or_eq_true ([((s, t) : QP)].all pointB) with KPLk | KPLk
  rotate_left
  · have KPL := Lib.hid KPLk; have KP : Hid (pointB (s, t) = false) := Lib.hid (by simpa using KPLk); clear KPLk
    have HX := More.refl ((w.alloc (.cells #[.bool p.1.1, .slice pa pn pc, .slice pd pm pe, .bool q.1.1, .slice qa qn qc, .slice qd qm qe, .bool r.1.1, .slice ra rn rc, .slice rd rm re] 50)).alloc (.cells #[.bool s.1.1, .slice sa sn sc, .slice sd sm se, .bool t.1.1, .slice ta tn tc, .slice td tm te] 47))
    have HB := fun (w' : World) (h : More ((w.alloc (.cells #[.bool p.1.1, .slice pa pn pc, .slice pd pm pe, .bool q.1.1, .slice qa qn qc, .slice qd qm qe, .bool r.1.1, .slice ra rn rc, .slice rd rm re] 50)).alloc (.cells #[.bool s.1.1, .slice sa sn sc, .slice sd sm se, .bool t.1.1, .slice ta tn tc, .slice td tm te] 47)) w') => And.intro (bx9 (w.heap.size) (by simp) (More.un h)) (bx6 (w.heap.size + 1) (by simp) h)
    go_enter Tryz.func103, Tryz.ntmps103
    go_wp2_with (first | (go_at_call 74; (with_reducible refine (impl_IsValidWall [.bool p.1.1, .slice pa pn pc, .slice pd pm pe, .bool q.1.1, .slice qa qn qc, .slice qd qm qe, .bool r.1.1, .slice ra rn rc, .slice rd rm re] p q r _ (Ty.at_more HV0.out mC) HW0.out).mono ?_); rintro e w1 ⟨rfl, hb1⟩; have HX1 := More.trans HX (show More _ w1 from mC); have HB1 := HB _ HX1; have hz1 := More.size HX1; (try simp at hz1); have hb1 := hb1; rw [KW.out]) | (go_at_call 87; refine (impl_arePoints _ [(s, t)] _ (lit_at (S := tPoint) (n := 1) [([.bool s.1.1, .slice sa sn sc, .slice sd sm se, .bool t.1.1, .slice ta tn tc, .slice td tm te], (s, t))] (by simp) rfl rfl (by decide) (by rintro p hp; simp only [List.mem_cons, List.not_mem_nil, or_false] at hp; rcases hp with rfl <;> first | exact ⟨rfl, (Ty.at_more HV1.out mC)⟩) : (tSlice tPoint).at _ [_] [(s, t)]) (by refine ⟨by simp, ?_⟩; intro x hx; simp only [List.mem_cons, List.not_mem_nil, or_false] at hx; rcases hx with rfl <;> first | exact HW1.out)).mono ?_; rintro e w2 ⟨rfl, hb2⟩; have HX2 := More.trans HX (show More _ w2 from mC); have HB2 := HB _ HX2; have hz2 := More.size HX2; (try simp at hz2); have hb2 := hb2; rw [KPL.out]))
    skip
    go_ret
    exact ⟨ret_bool (by simp [InWallB, KW.out, KP.out]), mC⟩
  have KPL := Lib.hid KPLk; have KP : Hid (pointB (s, t) = true) := Lib.hid (by simpa using KPLk); clear KPLk
  rcases Bool.eq_false_or_eq_true (inWallB (p, q, r) (s, t)) with KIk | KIk
  rotate_left
  · have KI := Lib.hid KIk; clear KIk
    have HX := More.refl ((w.alloc (.cells #[.bool p.1.1, .slice pa pn pc, .slice pd pm pe, .bool q.1.1, .slice qa qn qc, .slice qd qm qe, .bool r.1.1, .slice ra rn rc, .slice rd rm re] 50)).alloc (.cells #[.bool s.1.1, .slice sa sn sc, .slice sd sm se, .bool t.1.1, .slice ta tn tc, .slice td tm te] 47))
    have HB := fun (w' : World) (h : More ((w.alloc (.cells #[.bool p.1.1, .slice pa pn pc, .slice pd pm pe, .bool q.1.1, .slice qa qn qc, .slice qd qm qe, .bool r.1.1, .slice ra rn rc, .slice rd rm re] 50)).alloc (.cells #[.bool s.1.1, .slice sa sn sc, .slice sd sm se, .bool t.1.1, .slice ta tn tc, .slice td tm te] 47)) w') => And.intro (bx9 (w.heap.size) (by simp) (More.un h)) (bx6 (w.heap.size + 1) (by simp) h)
    go_enter Tryz.func103, Tryz.ntmps103
    go_wp2_with (first | (go_at_call 74; (with_reducible refine (impl_IsValidWall [.bool p.1.1, .slice pa pn pc, .slice pd pm pe, .bool q.1.1, .slice qa qn qc, .slice qd qm qe, .bool r.1.1, .slice ra rn rc, .slice rd rm re] p q r _ (Ty.at_more HV0.out mC) HW0.out).mono ?_); rintro e w1 ⟨rfl, hb1⟩; have HX1 := More.trans HX (show More _ w1 from mC); have HB1 := HB _ HX1; have hz1 := More.size HX1; (try simp at hz1); have hb1 := hb1; rw [KW.out]) | (go_at_call 87; refine (impl_arePoints _ [(s, t)] _ (lit_at (S := tPoint) (n := 1) [([.bool s.1.1, .slice sa sn sc, .slice sd sm se, .bool t.1.1, .slice ta tn tc, .slice td tm te], (s, t))] (by simp) rfl rfl (by decide) (by rintro p hp; simp only [List.mem_cons, List.not_mem_nil, or_false] at hp; rcases hp with rfl <;> first | exact ⟨rfl, (Ty.at_more HV1.out mC)⟩) : (tSlice tPoint).at _ [_] [(s, t)]) (by refine ⟨by simp, ?_⟩; intro x hx; simp only [List.mem_cons, List.not_mem_nil, or_false] at hx; rcases hx with rfl <;> first | exact HW1.out)).mono ?_; rintro e w2 ⟨rfl, hb2⟩; have HX2 := More.trans HX (show More _ w2 from mC); have HB2 := HB _ HX2; have hz2 := More.size HX2; (try simp at hz2); have hb2 := hb2; rw [KPL.out]) | (go_at_call 154; (with_reducible refine (impl_inWall [.bool p.1.1, .slice pa pn pc, .slice pd pm pe, .bool q.1.1, .slice qa qn qc, .slice qd qm qe, .bool r.1.1, .slice ra rn rc, .slice rd rm re] p q r [.bool s.1.1, .slice sa sn sc, .slice sd sm se, .bool t.1.1, .slice ta tn tc, .slice td tm te] s t _ (Ty.at_more HV0.out mC) HW0.out (Ty.at_more HV1.out mC) HW1.out (wallB_parts KW.out).1 (wallB_parts KW.out).2.1 (wallB_parts KW.out).2.2 (pointB_parts KP.out).1 (pointB_parts KP.out).2).mono ?_); rintro e w3 ⟨rfl, hb3⟩; have HX3 := More.trans HX (show More _ w3 from mC); have HB3 := HB _ HX3; have hz3 := More.size HX3; (try simp at hz3); have hb3 := hb3; rw [KI.out]))
    skip
    go_ret
    exact ⟨ret_bool (by simp [InWallB, KW.out, KP.out, KI.out]), mC⟩
  have KI := Lib.hid KIk; clear KIk
  have HX := More.refl ((w.alloc (.cells #[.bool p.1.1, .slice pa pn pc, .slice pd pm pe, .bool q.1.1, .slice qa qn qc, .slice qd qm qe, .bool r.1.1, .slice ra rn rc, .slice rd rm re] 50)).alloc (.cells #[.bool s.1.1, .slice sa sn sc, .slice sd sm se, .bool t.1.1, .slice ta tn tc, .slice td tm te] 47))
  have HB := fun (w' : World) (h : More ((w.alloc (.cells #[.bool p.1.1, .slice pa pn pc, .slice pd pm pe, .bool q.1.1, .slice qa qn qc, .slice qd qm qe, .bool r.1.1, .slice ra rn rc, .slice rd rm re] 50)).alloc (.cells #[.bool s.1.1, .slice sa sn sc, .slice sd sm se, .bool t.1.1, .slice ta tn tc, .slice td tm te] 47)) w') => And.intro (bx9 (w.heap.size) (by simp) (More.un h)) (bx6 (w.heap.size + 1) (by simp) h)
  go_enter Tryz.func103, Tryz.ntmps103
  go_wp2_with (first | (go_at_call 74; (with_reducible refine (impl_IsValidWall [.bool p.1.1, .slice pa pn pc, .slice pd pm pe, .bool q.1.1, .slice qa qn qc, .slice qd qm qe, .bool r.1.1, .slice ra rn rc, .slice rd rm re] p q r _ (Ty.at_more HV0.out mC) HW0.out).mono ?_); rintro e w1 ⟨rfl, hb1⟩; have HX1 := More.trans HX (show More _ w1 from mC); have HB1 := HB _ HX1; have hz1 := More.size HX1; (try simp at hz1); have hb1 := hb1; rw [KW.out]) | (go_at_call 87; refine (impl_arePoints _ [(s, t)] _ (lit_at (S := tPoint) (n := 1) [([.bool s.1.1, .slice sa sn sc, .slice sd sm se, .bool t.1.1, .slice ta tn tc, .slice td tm te], (s, t))] (by simp) rfl rfl (by decide) (by rintro p hp; simp only [List.mem_cons, List.not_mem_nil, or_false] at hp; rcases hp with rfl <;> first | exact ⟨rfl, (Ty.at_more HV1.out mC)⟩) : (tSlice tPoint).at _ [_] [(s, t)]) (by refine ⟨by simp, ?_⟩; intro x hx; simp only [List.mem_cons, List.not_mem_nil, or_false] at hx; rcases hx with rfl <;> first | exact HW1.out)).mono ?_; rintro e w2 ⟨rfl, hb2⟩; have HX2 := More.trans HX (show More _ w2 from mC); have HB2 := HB _ HX2; have hz2 := More.size HX2; (try simp at hz2); have hb2 := hb2; rw [KPL.out]) | (go_at_call 154; (with_reducible refine (impl_inWall [.bool p.1.1, .slice pa pn pc, .slice pd pm pe, .bool q.1.1, .slice qa qn qc, .slice qd qm qe, .bool r.1.1, .slice ra rn rc, .slice rd rm re] p q r [.bool s.1.1, .slice sa sn sc, .slice sd sm se, .bool t.1.1, .slice ta tn tc, .slice td tm te] s t _ (Ty.at_more HV0.out mC) HW0.out (Ty.at_more HV1.out mC) HW1.out (wallB_parts KW.out).1 (wallB_parts KW.out).2.1 (wallB_parts KW.out).2.2 (pointB_parts KP.out).1 (pointB_parts KP.out).2).mono ?_); rintro e w3 ⟨rfl, hb3⟩; have HX3 := More.trans HX (show More _ w3 from mC); have HB3 := HB _ HX3; have hz3 := More.size HX3; (try simp at hz3); have hb3 := hb3; rw [KI.out]))
  skip
  go_ret
  exact ⟨ret_bool (by first | (simp [InWallB, KW.out, KP.out, KI.out]; done) | (simp [InWallB, KW.out, KP.out, KI.out] <;> omega)), mC⟩
set_option maxRecDepth 4000 in
set_option maxHeartbeats 6400000 in
theorem spec_InWall (cs0 : List Value) (p q r : QR) (cs1 : List Value) (s t : QR) (w : World) (hv0 : tWall.at w cs0 (p, q, r)) (hw0 : wWall (p, q, r) ≤ 1048576) (hv1 : tPoint.at w cs1 (s, t)) (hw1 : wPoint (s, t) ≤ 1048576) :
    Calls Tryz.prog 94 #[.agg cs0.toArray, .agg cs1.toArray] w fun e w' => e = .returned (.bool (InWallB (p, q, r) (s, t))) ∧ More w w' := by
  obtain ⟨k0, d0, rfl, f0, e0⟩ := at_prod hv0
  obtain ⟨k1, d1, rfl, f1, e1⟩ := at_prod e0
  have f2 := e1; clear e1
  have f0 : tRat.at w _ p := f0
  obtain ⟨pa, pn, pc, pd, pm, pe, rfl⟩ := sh_Rat f0
  have Hp := Lib.hid f0; clear f0
  try clear f0
  have Wp : Hid (wRat p ≤ 1048576) := Lib.hid (by have h := hw0; unfold wWall at h; dsimp only at h; omega)
  have f1 : tRat.at w _ q := f1
  obtain ⟨qa, qn, qc, qd, qm, qe, rfl⟩ := sh_Rat f1
  have Hq := Lib.hid f1; clear f1
  try clear f1
  have Wq : Hid (wRat q ≤ 1048576) := Lib.hid (by have h := hw0; unfold wWall at h; dsimp only at h; omega)
  have f2 : tRat.at w _ r := f2
  obtain ⟨ra, rn, rc, rd, rm, re, rfl⟩ := sh_Rat f2
  have Hr := Lib.hid f2; clear f2
  try clear f2
  have Wr : Hid (wRat r ≤ 1048576) := Lib.hid (by have h := hw0; unfold wWall at h; dsimp only at h; omega)
  try clear e0 e1 e2
  have HV0 : Hid (tWall.at w [.bool p.1.1, .slice pa pn pc, .slice pd pm pe, .bool q.1.1, .slice qa qn qc, .slice qd qm qe, .bool r.1.1, .slice ra rn rc, .slice rd rm re] (p, q, r)) := Lib.hid hv0; have HW0 := Lib.hid hw0; clear hv0 hw0
  obtain ⟨k0, d0, rfl, f0, e0⟩ := at_prod hv1
  have f1 := e0; clear e0
  have f0 : tRat.at w _ s := f0
  obtain ⟨sa, sn, sc, sd, sm, se, rfl⟩ := sh_Rat f0
  have Hs := Lib.hid f0; clear f0
  try clear f0
  have Ws : Hid (wRat s ≤ 1048576) := Lib.hid (by have h := hw1; unfold wPoint at h; dsimp only at h; omega)
  have f1 : tRat.at w _ t := f1
  obtain ⟨ta, tn, tc, td, tm, te, rfl⟩ := sh_Rat f1
  have Ht := Lib.hid f1; clear f1
  try clear f1
  have Wt : Hid (wRat t ≤ 1048576) := Lib.hid (by have h := hw1; unfold wPoint at h; dsimp only at h; omega)
  try clear e0 e1
  have HV1 : Hid (tPoint.at w [.bool s.1.1, .slice sa sn sc, .slice sd sm se, .bool t.1.1, .slice ta tn tc, .slice td tm te] (s, t)) := Lib.hid hv1; have HW1 := Lib.hid hw1; clear hv1 hw1
  show Calls Tryz.prog 94 #[.agg #[.bool p.1.1, .slice pa pn pc, .slice pd pm pe, .bool q.1.1, .slice qa qn qc, .slice qd qm qe, .bool r.1.1, .slice ra rn rc, .slice rd rm re], .agg #[.bool s.1.1, .slice sa sn sc, .slice sd sm se, .bool t.1.1, .slice ta tn tc, .slice td tm te]] w _
  rcases Bool.eq_false_or_eq_true (wallB (p, q, r)) with KWk | KWk
  rotate_left
  · have KW := Lib.hid KWk; clear KWk
    have HX := More.refl ((w.alloc (.cells #[.bool p.1.1, .slice pa pn pc, .slice pd pm pe, .bool q.1.1, .slice qa qn qc, .slice qd qm qe, .bool r.1.1, .slice ra rn rc, .slice rd rm re] 50)).alloc (.cells #[.bool s.1.1, .slice sa sn sc, .slice sd sm se, .bool t.1.1, .slice ta tn tc, .slice td tm te] 47))
    have HB := fun (w' : World) (h : More ((w.alloc (.cells #[.bool p.1.1, .slice pa pn pc, .slice pd pm pe, .bool q.1.1, .slice qa qn qc, .slice qd qm qe, .bool r.1.1, .slice ra rn rc, .slice rd rm re] 50)).alloc (.cells #[.bool s.1.1, .slice sa sn sc, .slice sd sm se, .bool t.1.1, .slice ta tn tc, .slice td tm te] 47)) w') => And.intro (bx9 (w.heap.size) (by simp) (More.un h)) (bx6 (w.heap.size + 1) (by simp) h)
    go_enter Tryz.func94, Tryz.ntmps94
    go_wp2_with (first | (go_at_call 68; (with_reducible refine (spec_IsValidWall [.bool p.1.1, .slice pa pn pc, .slice pd pm pe, .bool q.1.1, .slice qa qn qc, .slice qd qm qe, .bool r.1.1, .slice ra rn rc, .slice rd rm re] p q r _ (Ty.at_more HV0.out mC) HW0.out).mono ?_); rintro e w1 ⟨rfl, hb1⟩; have HX1 := More.trans HX (show More _ w1 from mC); have HB1 := HB _ HX1; have hz1 := More.size HX1; (try simp at hz1); have hb1 := hb1; rw [KW.out]))
    skip
    go_ret
    exact ⟨ret_bool (by simp [InWallB, KW.out]), mC⟩
  have KW := Lib.hid KWk; clear KWk
  rcases Bool.eq_false_or_eq_true (pointB (s, t)) with KPk | KPk
  rotate_left
  · have KP := Lib.hid KPk; clear KPk
    have HX := More.refl ((w.alloc (.cells #[.bool p.1.1, .slice pa pn pc, .slice pd pm pe, .bool q.1.1, .slice qa qn qc, .slice qd qm qe, .bool r.1.1, .slice ra rn rc, .slice rd rm re] 50)).alloc (.cells #[.bool s.1.1, .slice sa sn sc, .slice sd sm se, .bool t.1.1, .slice ta tn tc, .slice td tm te] 47))
    have HB := fun (w' : World) (h : More ((w.alloc (.cells #[.bool p.1.1, .slice pa pn pc, .slice pd pm pe, .bool q.1.1, .slice qa qn qc, .slice qd qm qe, .bool r.1.1, .slice ra rn rc, .slice rd rm re] 50)).alloc (.cells #[.bool s.1.1, .slice sa sn sc, .slice sd sm se, .bool t.1.1, .slice ta tn tc, .slice td tm te] 47)) w') => And.intro (bx9 (w.heap.size) (by simp) (More.un h)) (bx6 (w.heap.size + 1) (by simp) h)
    go_enter Tryz.func94, Tryz.ntmps94
    go_wp2_with (first | (go_at_call 68; (with_reducible refine (spec_IsValidWall [.bool p.1.1, .slice pa pn pc, .slice pd pm pe, .bool q.1.1, .slice qa qn qc, .slice qd qm qe, .bool r.1.1, .slice ra rn rc, .slice rd rm re] p q r _ (Ty.at_more HV0.out mC) HW0.out).mono ?_); rintro e w1 ⟨rfl, hb1⟩; have HX1 := More.trans HX (show More _ w1 from mC); have HB1 := HB _ HX1; have hz1 := More.size HX1; (try simp at hz1); have hb1 := hb1; rw [KW.out]) | (go_at_call 136; (with_reducible refine (spec_IsValidPoint [.bool s.1.1, .slice sa sn sc, .slice sd sm se, .bool t.1.1, .slice ta tn tc, .slice td tm te] s t _ (Ty.at_more HV1.out mC) HW1.out).mono ?_); rintro e w2 ⟨rfl, hb2⟩; have HX2 := More.trans HX (show More _ w2 from mC); have HB2 := HB _ HX2; have hz2 := More.size HX2; (try simp at hz2); have hb2 := hb2; rw [KP.out]))
    skip
    go_ret
    exact ⟨ret_bool (by simp [InWallB, KW.out, KP.out]), mC⟩
  have KP := Lib.hid KPk; clear KPk
  obtain ⟨b0, b0h⟩ : ∃ c, rCmp s p = c := ⟨_, rfl⟩
  obtain ⟨b0l, b0u⟩ : -1 ≤ b0 ∧ b0 ≤ 1 := by rw [← b0h]; exact rCmp_range _ _
  have B := Lib.hid b0h; clear b0h
  rcases (show b0 = 0 ∨ (b0 < 0 ∨ 0 < b0) by omega) with hB | hB
  rotate_left
  · have hBb : (b0 == (0 : Int)) = false := by simp; omega
    have HX := More.refl ((w.alloc (.cells #[.bool p.1.1, .slice pa pn pc, .slice pd pm pe, .bool q.1.1, .slice qa qn qc, .slice qd qm qe, .bool r.1.1, .slice ra rn rc, .slice rd rm re] 50)).alloc (.cells #[.bool s.1.1, .slice sa sn sc, .slice sd sm se, .bool t.1.1, .slice ta tn tc, .slice td tm te] 47))
    have HB := fun (w' : World) (h : More ((w.alloc (.cells #[.bool p.1.1, .slice pa pn pc, .slice pd pm pe, .bool q.1.1, .slice qa qn qc, .slice qd qm qe, .bool r.1.1, .slice ra rn rc, .slice rd rm re] 50)).alloc (.cells #[.bool s.1.1, .slice sa sn sc, .slice sd sm se, .bool t.1.1, .slice ta tn tc, .slice td tm te] 47)) w') => And.intro (bx9 (w.heap.size) (by simp) (More.un h)) (bx6 (w.heap.size + 1) (by simp) h)
    go_enter Tryz.func94, Tryz.ntmps94
    go_wp2_with (first | (go_at_call 68; (with_reducible refine (spec_IsValidWall [.bool p.1.1, .slice pa pn pc, .slice pd pm pe, .bool q.1.1, .slice qa qn qc, .slice qd qm qe, .bool r.1.1, .slice ra rn rc, .slice rd rm re] p q r _ (Ty.at_more HV0.out mC) HW0.out).mono ?_); rintro e w1 ⟨rfl, hb1⟩; have HX1 := More.trans HX (show More _ w1 from mC); have HB1 := HB _ HX1; have hz1 := More.size HX1; (try simp at hz1); have hb1 := hb1; rw [KW.out]) | (go_at_call 136; (with_reducible refine (spec_IsValidPoint [.bool s.1.1, .slice sa sn sc, .slice sd sm se, .bool t.1.1, .slice ta tn tc, .slice td tm te] s t _ (Ty.at_more HV1.out mC) HW1.out).mono ?_); rintro e w2 ⟨rfl, hb2⟩; have HX2 := More.trans HX (show More _ w2 from mC); have HB2 := HB _ HX2; have hz2 := More.size HX2; (try simp at hz2); have hb2 := hb2; rw [KP.out]) | (go_at_call 46; (with_reducible refine (spec_RatCmpX s s.1.1 (.slice sa sn sc) (.slice sd sm se) p p.1.1 (.slice pa pn pc) (.slice pd pm pe) _ (Ty.at_more Hs.out mC) Ws.out (Ty.at_more Hp.out mC) Wp.out).mono ?_); rintro e w3 ⟨rfl, hb3⟩; have HX3 := More.trans HX (show More _ w3 from mC); have HB3 := HB _ HX3; have hz3 := More.size HX3; (try simp at hz3); have hb3 := hb3; rw [B.out]))
    skip
    go_ret
    exact ⟨ret_bool (by first | (simp [InWallB, inWallB, ← rCmp_zero (pointB_parts KP.out).1 (wallB_parts KW.out).1, KW.out, KP.out, B.out]; done) | (simp [InWallB, inWallB, ← rCmp_zero (pointB_parts KP.out).1 (wallB_parts KW.out).1, KW.out, KP.out, B.out] <;> omega)), mC⟩
  subst hB
  obtain ⟨c0, c0h⟩ : ∃ c, rCmp t q = c := ⟨_, rfl⟩
  obtain ⟨c0l, c0u⟩ : -1 ≤ c0 ∧ c0 ≤ 1 := by rw [← c0h]; exact rCmp_range _ _
  have C := Lib.hid c0h; clear c0h
  rcases (show 0 < c0 ∨ c0 ≤ 0 by omega) with hC | hC
  rotate_left
  · skip
    have HX := More.refl ((w.alloc (.cells #[.bool p.1.1, .slice pa pn pc, .slice pd pm pe, .bool q.1.1, .slice qa qn qc, .slice qd qm qe, .bool r.1.1, .slice ra rn rc, .slice rd rm re] 50)).alloc (.cells #[.bool s.1.1, .slice sa sn sc, .slice sd sm se, .bool t.1.1, .slice ta tn tc, .slice td tm te] 47))
    have HB := fun (w' : World) (h : More ((w.alloc (.cells #[.bool p.1.1, .slice pa pn pc, .slice pd pm pe, .bool q.1.1, .slice qa qn qc, .slice qd qm qe, .bool r.1.1, .slice ra rn rc, .slice rd rm re] 50)).alloc (.cells #[.bool s.1.1, .slice sa sn sc, .slice sd sm se, .bool t.1.1, .slice ta tn tc, .slice td tm te] 47)) w') => And.intro (bx9 (w.heap.size) (by simp) (More.un h)) (bx6 (w.heap.size + 1) (by simp) h)
    go_enter Tryz.func94, Tryz.ntmps94
    go_wp2_with (first | (go_at_call 68; (with_reducible refine (spec_IsValidWall [.bool p.1.1, .slice pa pn pc, .slice pd pm pe, .bool q.1.1, .slice qa qn qc, .slice qd qm qe, .bool r.1.1, .slice ra rn rc, .slice rd rm re] p q r _ (Ty.at_more HV0.out mC) HW0.out).mono ?_); rintro e w1 ⟨rfl, hb1⟩; have HX1 := More.trans HX (show More _ w1 from mC); have HB1 := HB _ HX1; have hz1 := More.size HX1; (try simp at hz1); have hb1 := hb1; rw [KW.out]) | (go_at_call 136; (with_reducible refine (spec_IsValidPoint [.bool s.1.1, .slice sa sn sc, .slice sd sm se, .bool t.1.1, .slice ta tn tc, .slice td tm te] s t _ (Ty.at_more HV1.out mC) HW1.out).mono ?_); rintro e w2 ⟨rfl, hb2⟩; have HX2 := More.trans HX (show More _ w2 from mC); have HB2 := HB _ HX2; have hz2 := More.size HX2; (try simp at hz2); have hb2 := hb2; rw [KP.out]) | (go_at_call 46; (with_reducible refine (spec_RatCmpX s s.1.1 (.slice sa sn sc) (.slice sd sm se) p p.1.1 (.slice pa pn pc) (.slice pd pm pe) _ (Ty.at_more Hs.out mC) Ws.out (Ty.at_more Hp.out mC) Wp.out).mono ?_); rintro e w3 ⟨rfl, hb3⟩; have HX3 := More.trans HX (show More _ w3 from mC); have HB3 := HB _ HX3; have hz3 := More.size HX3; (try simp at hz3); have hb3 := hb3; rw [B.out]) | (go_at_call 46; (with_reducible refine (spec_RatCmpX t t.1.1 (.slice ta tn tc) (.slice td tm te) q q.1.1 (.slice qa qn qc) (.slice qd qm qe) _ (Ty.at_more Ht.out mC) Wt.out (Ty.at_more Hq.out mC) Wq.out).mono ?_); rintro e w4 ⟨rfl, hb4⟩; have HX4 := More.trans HX (show More _ w4 from mC); have HB4 := HB _ HX4; have hz4 := More.size HX4; (try simp at hz4); have hb4 := hb4; rw [C.out]))
    skip
    go_ret
    exact ⟨ret_bool (by first | (simp [InWallB, inWallB, ← rCmp_zero (pointB_parts KP.out).1 (wallB_parts KW.out).1, KW.out, KP.out, B.out, C.out]; done) | (simp [InWallB, inWallB, ← rCmp_zero (pointB_parts KP.out).1 (wallB_parts KW.out).1, KW.out, KP.out, B.out, C.out] <;> omega)), mC⟩
  obtain ⟨d0, d0h⟩ : ∃ c, rCmp t r = c := ⟨_, rfl⟩
  obtain ⟨d0l, d0u⟩ : -1 ≤ d0 ∧ d0 ≤ 1 := by rw [← d0h]; exact rCmp_range _ _
  have D := Lib.hid d0h; clear d0h
  rcases (show d0 < 0 ∨ 0 ≤ d0 by omega) with hD | hD
  rotate_left
  · skip
    have HX := More.refl ((w.alloc (.cells #[.bool p.1.1, .slice pa pn pc, .slice pd pm pe, .bool q.1.1, .slice qa qn qc, .slice qd qm qe, .bool r.1.1, .slice ra rn rc, .slice rd rm re] 50)).alloc (.cells #[.bool s.1.1, .slice sa sn sc, .slice sd sm se, .bool t.1.1, .slice ta tn tc, .slice td tm te] 47))
    have HB := fun (w' : World) (h : More ((w.alloc (.cells #[.bool p.1.1, .slice pa pn pc, .slice pd pm pe, .bool q.1.1, .slice qa qn qc, .slice qd qm qe, .bool r.1.1, .slice ra rn rc, .slice rd rm re] 50)).alloc (.cells #[.bool s.1.1, .slice sa sn sc, .slice sd sm se, .bool t.1.1, .slice ta tn tc, .slice td tm te] 47)) w') => And.intro (bx9 (w.heap.size) (by simp) (More.un h)) (bx6 (w.heap.size + 1) (by simp) h)
    go_enter Tryz.func94, Tryz.ntmps94
    go_wp2_with (first | (go_at_call 68; (with_reducible refine (spec_IsValidWall [.bool p.1.1, .slice pa pn pc, .slice pd pm pe, .bool q.1.1, .slice qa qn qc, .slice qd qm qe, .bool r.1.1, .slice ra rn rc, .slice rd rm re] p q r _ (Ty.at_more HV0.out mC) HW0.out).mono ?_); rintro e w1 ⟨rfl, hb1⟩; have HX1 := More.trans HX (show More _ w1 from mC); have HB1 := HB _ HX1; have hz1 := More.size HX1; (try simp at hz1); have hb1 := hb1; rw [KW.out]) | (go_at_call 136; (with_reducible refine (spec_IsValidPoint [.bool s.1.1, .slice sa sn sc, .slice sd sm se, .bool t.1.1, .slice ta tn tc, .slice td tm te] s t _ (Ty.at_more HV1.out mC) HW1.out).mono ?_); rintro e w2 ⟨rfl, hb2⟩; have HX2 := More.trans HX (show More _ w2 from mC); have HB2 := HB _ HX2; have hz2 := More.size HX2; (try simp at hz2); have hb2 := hb2; rw [KP.out]) | (go_at_call 46; (with_reducible refine (spec_RatCmpX s s.1.1 (.slice sa sn sc) (.slice sd sm se) p p.1.1 (.slice pa pn pc) (.slice pd pm pe) _ (Ty.at_more Hs.out mC) Ws.out (Ty.at_more Hp.out mC) Wp.out).mono ?_); rintro e w3 ⟨rfl, hb3⟩; have HX3 := More.trans HX (show More _ w3 from mC); have HB3 := HB _ HX3; have hz3 := More.size HX3; (try simp at hz3); have hb3 := hb3; rw [B.out]) | (go_at_call 46; (with_reducible refine (spec_RatCmpX t t.1.1 (.slice ta tn tc) (.slice td tm te) q q.1.1 (.slice qa qn qc) (.slice qd qm qe) _ (Ty.at_more Ht.out mC) Wt.out (Ty.at_more Hq.out mC) Wq.out).mono ?_); rintro e w4 ⟨rfl, hb4⟩; have HX4 := More.trans HX (show More _ w4 from mC); have HB4 := HB _ HX4; have hz4 := More.size HX4; (try simp at hz4); have hb4 := hb4; rw [C.out]) | (go_at_call 46; (with_reducible refine (spec_RatCmpX t t.1.1 (.slice ta tn tc) (.slice td tm te) r r.1.1 (.slice ra rn rc) (.slice rd rm re) _ (Ty.at_more Ht.out mC) Wt.out (Ty.at_more Hr.out mC) Wr.out).mono ?_); rintro e w5 ⟨rfl, hb5⟩; have HX5 := More.trans HX (show More _ w5 from mC); have HB5 := HB _ HX5; have hz5 := More.size HX5; (try simp at hz5); have hb5 := hb5; rw [D.out]))
    skip
    go_ret
    exact ⟨ret_bool (by first | (simp [InWallB, inWallB, ← rCmp_zero (pointB_parts KP.out).1 (wallB_parts KW.out).1, KW.out, KP.out, B.out, C.out, D.out]; done) | (simp [InWallB, inWallB, ← rCmp_zero (pointB_parts KP.out).1 (wallB_parts KW.out).1, KW.out, KP.out, B.out, C.out, D.out] <;> omega)), mC⟩
  have HX := More.refl ((w.alloc (.cells #[.bool p.1.1, .slice pa pn pc, .slice pd pm pe, .bool q.1.1, .slice qa qn qc, .slice qd qm qe, .bool r.1.1, .slice ra rn rc, .slice rd rm re] 50)).alloc (.cells #[.bool s.1.1, .slice sa sn sc, .slice sd sm se, .bool t.1.1, .slice ta tn tc, .slice td tm te] 47))
  have HB := fun (w' : World) (h : More ((w.alloc (.cells #[.bool p.1.1, .slice pa pn pc, .slice pd pm pe, .bool q.1.1, .slice qa qn qc, .slice qd qm qe, .bool r.1.1, .slice ra rn rc, .slice rd rm re] 50)).alloc (.cells #[.bool s.1.1, .slice sa sn sc, .slice sd sm se, .bool t.1.1, .slice ta tn tc, .slice td tm te] 47)) w') => And.intro (bx9 (w.heap.size) (by simp) (More.un h)) (bx6 (w.heap.size + 1) (by simp) h)
  go_enter Tryz.func94, Tryz.ntmps94
  go_wp2_with (first | (go_at_call 68; (with_reducible refine (spec_IsValidWall [.bool p.1.1, .slice pa pn pc, .slice pd pm pe, .bool q.1.1, .slice qa qn qc, .slice qd qm qe, .bool r.1.1, .slice ra rn rc, .slice rd rm re] p q r _ (Ty.at_more HV0.out mC) HW0.out).mono ?_); rintro e w1 ⟨rfl, hb1⟩; have HX1 := More.trans HX (show More _ w1 from mC); have HB1 := HB _ HX1; have hz1 := More.size HX1; (try simp at hz1); have hb1 := hb1; rw [KW.out]) | (go_at_call 136; (with_reducible refine (spec_IsValidPoint [.bool s.1.1, .slice sa sn sc, .slice sd sm se, .bool t.1.1, .slice ta tn tc, .slice td tm te] s t _ (Ty.at_more HV1.out mC) HW1.out).mono ?_); rintro e w2 ⟨rfl, hb2⟩; have HX2 := More.trans HX (show More _ w2 from mC); have HB2 := HB _ HX2; have hz2 := More.size HX2; (try simp at hz2); have hb2 := hb2; rw [KP.out]) | (go_at_call 46; (with_reducible refine (spec_RatCmpX s s.1.1 (.slice sa sn sc) (.slice sd sm se) p p.1.1 (.slice pa pn pc) (.slice pd pm pe) _ (Ty.at_more Hs.out mC) Ws.out (Ty.at_more Hp.out mC) Wp.out).mono ?_); rintro e w3 ⟨rfl, hb3⟩; have HX3 := More.trans HX (show More _ w3 from mC); have HB3 := HB _ HX3; have hz3 := More.size HX3; (try simp at hz3); have hb3 := hb3; rw [B.out]) | (go_at_call 46; (with_reducible refine (spec_RatCmpX t t.1.1 (.slice ta tn tc) (.slice td tm te) q q.1.1 (.slice qa qn qc) (.slice qd qm qe) _ (Ty.at_more Ht.out mC) Wt.out (Ty.at_more Hq.out mC) Wq.out).mono ?_); rintro e w4 ⟨rfl, hb4⟩; have HX4 := More.trans HX (show More _ w4 from mC); have HB4 := HB _ HX4; have hz4 := More.size HX4; (try simp at hz4); have hb4 := hb4; rw [C.out]) | (go_at_call 46; (with_reducible refine (spec_RatCmpX t t.1.1 (.slice ta tn tc) (.slice td tm te) r r.1.1 (.slice ra rn rc) (.slice rd rm re) _ (Ty.at_more Ht.out mC) Wt.out (Ty.at_more Hr.out mC) Wr.out).mono ?_); rintro e w5 ⟨rfl, hb5⟩; have HX5 := More.trans HX (show More _ w5 from mC); have HB5 := HB _ HX5; have hz5 := More.size HX5; (try simp at hz5); have hb5 := hb5; rw [D.out]))
  skip
  go_ret
  exact ⟨ret_bool (by first | (simp [InWallB, inWallB, ← rCmp_zero (pointB_parts KP.out).1 (wallB_parts KW.out).1, KW.out, KP.out, B.out, C.out, D.out]; done) | (simp [InWallB, inWallB, ← rCmp_zero (pointB_parts KP.out).1 (wallB_parts KW.out).1, KW.out, KP.out, B.out, C.out, D.out] <;> omega)), mC⟩
end Go.Proofs.YteihkhniibncnaaGreat
