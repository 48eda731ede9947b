/- Between two fractions; in the span of two points. -/
import Derived.Test.YtkhcblheekfdmaaThn
import Derived.Test.YtkhcblheekfdmaaMm
namespace Go.Proofs.Ytkhcblheekfdmaa
open Go.RowKit
set_option maxRecDepth 8000 in
set_option maxHeartbeats 12800000 in
theorem impl_isBetween (cs0 : List Value) (p : QR) (cs1 : List Value) (q : QR) (cs2 : List Value) (r : QR) (w : World) (hv0 : tRat.at w cs0 p) (hw0 : wRat p ≤ 1048576) (hv1 : tRat.at w cs1 q) (hw1 : wRat q ≤ 1048576) (hv2 : tRat.at w cs2 r) (hw2 : wRat r ≤ 1048576) (kp : ratOkB p = true) (kq : ratOkB q = true) (kr : ratOkB r = true) :
    Calls Try.prog 214 #[.agg cs0.toArray, .agg cs1.toArray, .agg cs2.toArray] w fun e w' => e = .returned (.bool (betB p q r)) ∧ More w w' := by
  obtain ⟨pa, pn, pc, pd, pm, pe, rfl⟩ := sh_Rat hv0
  have Hp := Lib.hid hv0; have Wp := Lib.hid hw0
  have HV0 : Hid (tRat.at w [.bool p.1.1, .slice pa pn pc, .slice pd pm pe] p) := Lib.hid hv0; have HW0 := Lib.hid hw0; clear hv0 hw0
  obtain ⟨qa, qn, qc, qd, qm, qe, rfl⟩ := sh_Rat hv1
  have Hq := Lib.hid hv1; have Wq := Lib.hid hw1
  have HV1 : Hid (tRat.at w [.bool q.1.1, .slice qa qn qc, .slice qd qm qe] q) := Lib.hid hv1; have HW1 := Lib.hid hw1; clear hv1 hw1
  obtain ⟨ra, rn, rc, rd, rm, re, rfl⟩ := sh_Rat hv2
  have Hr := Lib.hid hv2; have Wr := Lib.hid hw2
  have HV2 : Hid (tRat.at w [.bool r.1.1, .slice ra rn rc, .slice rd rm re] r) := Lib.hid hv2; have HW2 := Lib.hid hw2; clear hv2 hw2
  have Kp := Lib.hid kp; clear kp
  have Kq := Lib.hid kq; clear kq
  have Kr := Lib.hid kr; clear kr
  have KMminqr := Lib.hid (minQ_ok Kq.out Kr.out); have WMminqr := Lib.hid (minQ_w Wq.out Wr.out)
  have KMmaxqr := Lib.hid (maxQ_ok Kq.out Kr.out); have WMmaxqr := Lib.hid (maxQ_w Wq.out Wr.out)
  show Calls Try.prog 214 #[.agg #[.bool p.1.1, .slice pa pn pc, .slice pd pm pe], .agg #[.bool q.1.1, .slice qa qn qc, .slice qd qm qe], .agg #[.bool r.1.1, .slice ra rn rc, .slice rd rm re]] w _
  obtain ⟨c0, c0h⟩ : ∃ c, rCmp p (minQ q r) = c := ⟨_, rfl⟩
  obtain ⟨c0l, c0u⟩ : -1 ≤ c0 ∧ c0 ≤ 1 := by rw [← c0h]; exact rCmp_range _ _
  have C := Lib.hid c0h; clear c0h
  rcases (show 0 ≤ c0 ∨ c0 < 0 by omega) with hC | hC
  rotate_left
  · have hCd : decide (0 ≤ c0) = false := decide_eq_false (by omega)
    have HX := More.refl (((w.alloc (.cells #[.bool p.1.1, .slice pa pn pc, .slice pd pm pe] 32)).alloc (.cells #[.bool q.1.1, .slice qa qn qc, .slice qd qm qe] 32)).alloc (.cells #[.bool r.1.1, .slice ra rn rc, .slice rd rm re] 32))
    have HB := fun (w' : World) (h : More (((w.alloc (.cells #[.bool p.1.1, .slice pa pn pc, .slice pd pm pe] 32)).alloc (.cells #[.bool q.1.1, .slice qa qn qc, .slice qd qm qe] 32)).alloc (.cells #[.bool r.1.1, .slice ra rn rc, .slice rd rm re] 32)) w') => And.intro (bx3 (w.heap.size) (by simp) (More.un (More.un h))) (And.intro (bx3 (w.heap.size + 1) (by simp) (More.un h)) (bx3 (w.heap.size + 1 + 1) (by simp) h))
    have HC := fun (w' : World) (h : Turns [] _ w') => HB w' (Turns.more h)
    go_enter Try.func214, Try.ntmps214
    go_wp2_with fail
    refine wp_region_held_drew (S := (fun w' => Turns [] (((w.alloc (.cells #[.bool p.1.1, .slice pa pn pc, .slice pd pm pe] 32)).alloc (.cells #[.bool q.1.1, .slice qa qn qc, .slice qd qm qe] 32)).alloc (.cells #[.bool r.1.1, .slice ra rn rc, .slice rd rm re] 32)) w')) (by kernel_rfl) ?_ (fun hHeld => ?_)
    · first | exact tC | exact mC2
    refine tk (v := ?_) 0 ⟨some 7, _, _, _, _, _⟩ rfl ?_ ?_
    rotate_left 2
    · (intro w hSw; (try dsimp only at hSw); go_simp; (try with_reducible rfl))
    (try simp only [Act.put, tkA, tkB, tkC])
    refine tk (v := ?_) 1 ⟨some 8, _, _, _, _, _⟩ rfl ?_ ?_
    rotate_left 2
    · (intro w hSw; (try dsimp only at hSw); go_simp; (try with_reducible rfl))
    (try simp only [Act.put, tkA, tkB, tkC])
    refine tk (v := ?_) 2 ⟨some 9, _, _, _, _, _⟩ rfl ?_ ?_
    rotate_left 2
    · (intro w hSw; (try dsimp only at hSw); go_simp; (try with_reducible rfl))
    (try simp only [Act.put, tkA, tkB, tkC])
    refine wpAnyH_ready (rs := [3]) (by kernel_rfl) (by simp) ?_
    refine AllReadyH.cons (o := ⟨some 10, _, _, _, _, _⟩) rfl (fun K hK => ?_) AllReadyH.nil
    go_simp
    (go_at_call 177; (with_reducible refine (impl_ratMin [.bool q.1.1, .slice qa qn qc, .slice qd qm qe] q [.bool r.1.1, .slice ra rn rc, .slice rd rm re] r _ (Ty.at_more Hq.out mC) Wq.out (Ty.at_more Hr.out mC) Wr.out Kq.out Kr.out).mono ?_); rintro e w1 ⟨u1, v1, rfl, hb1, g1⟩; obtain ⟨r1a, r1n, r1c, r1d, r1m, r1e, e9⟩ := sh_Rat g1; simp only [List.cons.injEq, and_true, true_and] at e9; obtain ⟨e8, e9⟩ := e9; subst e8; subst e9; have G1 := Lib.hid g1; clear g1; have HX1 := More.trans HX (show More _ w1 from mC); have HB1 := HB _ HX1; have hz1 := More.size HX1; (try simp at hz1); have hb1 := hb1)
    refine hK.out _ _ ?_ (fun hHeld => ?_)
    · first | exact tC | exact mC2
    clear hK K
    (try simp only [Act.put, tkA, tkB, tkC])
    refine wpAnyH_ready (rs := [4]) (by kernel_rfl) (by simp) ?_
    refine AllReadyH.cons (o := ⟨some 11, _, _, _, _, _⟩) rfl (fun K hK => ?_) AllReadyH.nil
    go_simp
    (go_at_call 98; (with_reducible refine (impl_ratCmpX p p.1.1 (.slice pa pn pc) (.slice pd pm pe) (minQ q r) (minQ q r).1.1 (.slice r1a r1n r1c) (.slice r1d r1m r1e) _ Kp.out KMminqr.out (Ty.at_more Hp.out mC) (Ty.at_more G1.out mC)).mono ?_); rintro e w2 ⟨rfl, hb2⟩; rw [C.out]; have HX2 := More.trans HX (show More _ w2 from mC); have HB2 := HB _ HX2; have hz2 := More.size HX2; (try simp at hz2); have hb2 := hb2)
    refine hK.out _ _ ?_ (fun hHeld => ?_)
    · first | exact tC | exact mC2
    clear hK K
    (try simp only [Act.put, tkA, tkB, tkC])
    refine tk (v := ?_) 5 ⟨some 12, _, _, _, _, _⟩ rfl ?_ ?_
    rotate_left 2
    · (intro w hSw; (try dsimp only at hSw); go_simp; (try with_reducible rfl))
    (try simp only [Act.put, tkA, tkB, tkC])
    refine tk (v := ?_) 6 ⟨some 13, _, _, _, _, _⟩ rfl ?_ ?_
    rotate_left 2
    · (intro w hSw; (try dsimp only at hSw); go_simp; (try with_reducible rfl))
    (try simp only [Act.put, tkA, tkB, tkC])
    refine tk0 7 ⟨some 14, _, _, _, _, _⟩ rfl ?_
    (try simp only [Act.put, tkA, tkB, tkC])
    refine tk0 8 ⟨some 15, _, _, _, _, _⟩ rfl ?_
    (try simp only [Act.put, tkA, tkB, tkC])
    refine tk0 9 ⟨some 16, _, _, _, _, _⟩ rfl ?_
    (try simp only [Act.put, tkA, tkB, tkC])
    refine tk0 10 ⟨some 17, _, _, _, _, _⟩ rfl ?_
    (try simp only [Act.put, tkA, tkB, tkC])
    refine tk0 11 ⟨some 18, _, _, _, _, _⟩ rfl ?_
    (try simp only [Act.put, tkA, tkB, tkC])
    refine tk0 12 ⟨some 19, _, _, _, _, _⟩ rfl ?_
    (try simp only [Act.put, tkA, tkB, tkC])
    refine tk (v := ?_) 13 ⟨some 20, _, _, _, _, _⟩ rfl ?_ ?_
    rotate_left 2
    · (intro w hSw; (try dsimp only at hSw); go_simp; (try with_reducible rfl))
    (try simp only [Act.put, tkA, tkB, tkC])
    refine tk (v := ?_) 14 ⟨some 6, _, _, _, _, _⟩ rfl ?_ ?_
    rotate_left 2
    · (intro w hSw; (try dsimp only at hSw); go_simp; (try with_reducible rfl))
    (try simp only [Act.put, tkA, tkB, tkC])
    refine wpAnyH_done (by kernel_rfl) ?_ _
    go_wp2_with fail
    go_ret
    exact ⟨ret_bool (by first | (simp [betB, C.out]; done) | (simp [betB, C.out] <;> omega)), mC⟩
  have hCd : decide (0 ≤ c0) = true := decide_eq_true (by omega)
  obtain ⟨d0, d0h⟩ : ∃ c, rCmp p (maxQ q r) = c := ⟨_, rfl⟩
  obtain ⟨d0l, d0u⟩ : -1 ≤ d0 ∧ d0 ≤ 1 := by rw [← d0h]; exact rCmp_range _ _
  have D := Lib.hid d0h; clear d0h
  rcases (show d0 ≤ 0 ∨ 0 < d0 by omega) with hD | hD
  rotate_left
  · have hDd : decide (d0 ≤ 0) = false := decide_eq_false (by omega)
    have HX := More.refl (((w.alloc (.cells #[.bool p.1.1, .slice pa pn pc, .slice pd pm pe] 32)).alloc (.cells #[.bool q.1.1, .slice qa qn qc, .slice qd qm qe] 32)).alloc (.cells #[.bool r.1.1, .slice ra rn rc, .slice rd rm re] 32))
    have HB := fun (w' : World) (h : More (((w.alloc (.cells #[.bool p.1.1, .slice pa pn pc, .slice pd pm pe] 32)).alloc (.cells #[.bool q.1.1, .slice qa qn qc, .slice qd qm qe] 32)).alloc (.cells #[.bool r.1.1, .slice ra rn rc, .slice rd rm re] 32)) w') => And.intro (bx3 (w.heap.size) (by simp) (More.un (More.un h))) (And.intro (bx3 (w.heap.size + 1) (by simp) (More.un h)) (bx3 (w.heap.size + 1 + 1) (by simp) h))
    have HC := fun (w' : World) (h : Turns [] _ w') => HB w' (Turns.more h)
    go_enter Try.func214, Try.ntmps214
    go_wp2_with fail
    refine wp_region_held_drew (S := (fun w' => Turns [] (((w.alloc (.cells #[.bool p.1.1, .slice pa pn pc, .slice pd pm pe] 32)).alloc (.cells #[.bool q.1.1, .slice qa qn qc, .slice qd qm qe] 32)).alloc (.cells #[.bool r.1.1, .slice ra rn rc, .slice rd rm re] 32)) w')) (by kernel_rfl) ?_ (fun hHeld => ?_)
    · first | exact tC | exact mC2
    refine tk (v := ?_) 0 ⟨some 7, _, _, _, _, _⟩ rfl ?_ ?_
    rotate_left 2
    · (intro w hSw; (try dsimp only at hSw); go_simp; (try with_reducible rfl))
    (try simp only [Act.put, tkA, tkB, tkC])
    refine tk (v := ?_) 1 ⟨some 8, _, _, _, _, _⟩ rfl ?_ ?_
    rotate_left 2
    · (intro w hSw; (try dsimp only at hSw); go_simp; (try with_reducible rfl))
    (try simp only [Act.put, tkA, tkB, tkC])
    refine tk (v := ?_) 2 ⟨some 9, _, _, _, _, _⟩ rfl ?_ ?_
    rotate_left 2
    · (intro w hSw; (try dsimp only at hSw); go_simp; (try with_reducible rfl))
    (try simp only [Act.put, tkA, tkB, tkC])
    refine wpAnyH_ready (rs := [3]) (by kernel_rfl) (by simp) ?_
    refine AllReadyH.cons (o := ⟨some 10, _, _, _, _, _⟩) rfl (fun K hK => ?_) AllReadyH.nil
    go_simp
    (go_at_call 177; (with_reducible refine (impl_ratMin [.bool q.1.1, .slice qa qn qc, .slice qd qm qe] q [.bool r.1.1, .slice ra rn rc, .slice rd rm re] r _ (Ty.at_more Hq.out mC) Wq.out (Ty.at_more Hr.out mC) Wr.out Kq.out Kr.out).mono ?_); rintro e w1 ⟨u1, v1, rfl, hb1, g1⟩; obtain ⟨r1a, r1n, r1c, r1d, r1m, r1e, e9⟩ := sh_Rat g1; simp only [List.cons.injEq, and_true, true_and] at e9; obtain ⟨e8, e9⟩ := e9; subst e8; subst e9; have G1 := Lib.hid g1; clear g1; have HX1 := More.trans HX (show More _ w1 from mC); have HB1 := HB _ HX1; have hz1 := More.size HX1; (try simp at hz1); have hb1 := hb1)
    refine hK.out _ _ ?_ (fun hHeld => ?_)
    · first | exact tC | exact mC2
    clear hK K
    (try simp only [Act.put, tkA, tkB, tkC])
    refine wpAnyH_ready (rs := [4]) (by kernel_rfl) (by simp) ?_
    refine AllReadyH.cons (o := ⟨some 11, _, _, _, _, _⟩) rfl (fun K hK => ?_) AllReadyH.nil
    go_simp
    (go_at_call 98; (with_reducible refine (impl_ratCmpX p p.1.1 (.slice pa pn pc) (.slice pd pm pe) (minQ q r) (minQ q r).1.1 (.slice r1a r1n r1c) (.slice r1d r1m r1e) _ Kp.out KMminqr.out (Ty.at_more Hp.out mC) (Ty.at_more G1.out mC)).mono ?_); rintro e w2 ⟨rfl, hb2⟩; rw [C.out]; have HX2 := More.trans HX (show More _ w2 from mC); have HB2 := HB _ HX2; have hz2 := More.size HX2; (try simp at hz2); have hb2 := hb2)
    refine hK.out _ _ ?_ (fun hHeld => ?_)
    · first | exact tC | exact mC2
    clear hK K
    (try simp only [Act.put, tkA, tkB, tkC])
    refine tk (v := ?_) 5 ⟨some 12, _, _, _, _, _⟩ rfl ?_ ?_
    rotate_left 2
    · (intro w hSw; (try dsimp only at hSw); go_simp; (try with_reducible rfl))
    (try simp only [Act.put, tkA, tkB, tkC])
    refine tk (v := ?_) 6 ⟨some 13, _, _, _, _, _⟩ rfl ?_ ?_
    rotate_left 2
    · (intro w hSw; (try dsimp only at hSw); go_simp; (try with_reducible rfl))
    (try simp only [Act.put, tkA, tkB, tkC])
    refine tk (v := ?_) 7 ⟨some 14, _, _, _, _, _⟩ rfl ?_ ?_
    rotate_left 2
    · (intro w hSw; (try dsimp only at hSw); go_simp; (try with_reducible rfl))
    (try simp only [Act.put, tkA, tkB, tkC])
    refine tk (v := ?_) 8 ⟨some 15, _, _, _, _, _⟩ rfl ?_ ?_
    rotate_left 2
    · (intro w hSw; (try dsimp only at hSw); go_simp; (try with_reducible rfl))
    (try simp only [Act.put, tkA, tkB, tkC])
    refine tk (v := ?_) 9 ⟨some 16, _, _, _, _, _⟩ rfl ?_ ?_
    rotate_left 2
    · (intro w hSw; (try dsimp only at hSw); go_simp; (try with_reducible rfl))
    (try simp only [Act.put, tkA, tkB, tkC])
    refine wpAnyH_ready (rs := [10]) (by kernel_rfl) (by simp) ?_
    refine AllReadyH.cons (o := ⟨some 17, _, _, _, _, _⟩) rfl (fun K hK => ?_) AllReadyH.nil
    go_simp
    (go_at_call 176; (with_reducible refine (impl_ratMax [.bool q.1.1, .slice qa qn qc, .slice qd qm qe] q [.bool r.1.1, .slice ra rn rc, .slice rd rm re] r _ (Ty.at_more Hq.out mC) Wq.out (Ty.at_more Hr.out mC) Wr.out Kq.out Kr.out).mono ?_); rintro e w3 ⟨u3, v3, rfl, hb3, g3⟩; obtain ⟨r3a, r3n, r3c, r3d, r3m, r3e, e9⟩ := sh_Rat g3; simp only [List.cons.injEq, and_true, true_and] at e9; obtain ⟨e8, e9⟩ := e9; subst e8; subst e9; have G3 := Lib.hid g3; clear g3; have HX3 := More.trans HX (show More _ w3 from mC); have HB3 := HB _ HX3; have hz3 := More.size HX3; (try simp at hz3); have hb3 := hb3)
    refine hK.out _ _ ?_ (fun hHeld => ?_)
    · first | exact tC | exact mC2
    clear hK K
    (try simp only [Act.put, tkA, tkB, tkC])
    refine wpAnyH_ready (rs := [11]) (by kernel_rfl) (by simp) ?_
    refine AllReadyH.cons (o := ⟨some 18, _, _, _, _, _⟩) rfl (fun K hK => ?_) AllReadyH.nil
    go_simp
    (go_at_call 98; (with_reducible refine (impl_ratCmpX p p.1.1 (.slice pa pn pc) (.slice pd pm pe) (maxQ q r) (maxQ q r).1.1 (.slice r3a r3n r3c) (.slice r3d r3m r3e) _ Kp.out KMmaxqr.out (Ty.at_more Hp.out mC) (Ty.at_more G3.out mC)).mono ?_); rintro e w4 ⟨rfl, hb4⟩; rw [D.out]; have HX4 := More.trans HX (show More _ w4 from mC); have HB4 := HB _ HX4; have hz4 := More.size HX4; (try simp at hz4); have hb4 := hb4)
    refine hK.out _ _ ?_ (fun hHeld => ?_)
    · first | exact tC | exact mC2
    clear hK K
    (try simp only [Act.put, tkA, tkB, tkC])
    refine tk (v := ?_) 12 ⟨some 19, _, _, _, _, _⟩ rfl ?_ ?_
    rotate_left 2
    · (intro w hSw; (try dsimp only at hSw); go_simp; (try with_reducible rfl))
    (try simp only [Act.put, tkA, tkB, tkC])
    refine tk (v := ?_) 13 ⟨some 20, _, _, _, _, _⟩ rfl ?_ ?_
    rotate_left 2
    · (intro w hSw; (try dsimp only at hSw); go_simp; (try with_reducible rfl))
    (try simp only [Act.put, tkA, tkB, tkC])
    refine tk (v := ?_) 14 ⟨some 6, _, _, _, _, _⟩ rfl ?_ ?_
    rotate_left 2
    · (intro w hSw; (try dsimp only at hSw); go_simp; (try with_reducible rfl))
    (try simp only [Act.put, tkA, tkB, tkC])
    refine wpAnyH_done (by kernel_rfl) ?_ _
    go_wp2_with fail
    go_ret
    exact ⟨ret_bool (by first | (simp [betB, C.out, D.out]; done) | (simp [betB, C.out, D.out] <;> omega)), mC⟩
  have hDd : decide (d0 ≤ 0) = true := decide_eq_true (by omega)
  have HX := More.refl (((w.alloc (.cells #[.bool p.1.1, .slice pa pn pc, .slice pd pm pe] 32)).alloc (.cells #[.bool q.1.1, .slice qa qn qc, .slice qd qm qe] 32)).alloc (.cells #[.bool r.1.1, .slice ra rn rc, .slice rd rm re] 32))
  have HB := fun (w' : World) (h : More (((w.alloc (.cells #[.bool p.1.1, .slice pa pn pc, .slice pd pm pe] 32)).alloc (.cells #[.bool q.1.1, .slice qa qn qc, .slice qd qm qe] 32)).alloc (.cells #[.bool r.1.1, .slice ra rn rc, .slice rd rm re] 32)) w') => And.intro (bx3 (w.heap.size) (by simp) (More.un (More.un h))) (And.intro (bx3 (w.heap.size + 1) (by simp) (More.un h)) (bx3 (w.heap.size + 1 + 1) (by simp) h))
  have HC := fun (w' : World) (h : Turns [] _ w') => HB w' (Turns.more h)
  go_enter Try.func214, Try.ntmps214
  go_wp2_with fail
  refine wp_region_held_drew (S := (fun w' => Turns [] (((w.alloc (.cells #[.bool p.1.1, .slice pa pn pc, .slice pd pm pe] 32)).alloc (.cells #[.bool q.1.1, .slice qa qn qc, .slice qd qm qe] 32)).alloc (.cells #[.bool r.1.1, .slice ra rn rc, .slice rd rm re] 32)) w')) (by kernel_rfl) ?_ (fun hHeld => ?_)
  · first | exact tC | exact mC2
  refine tk (v := ?_) 0 ⟨some 7, _, _, _, _, _⟩ rfl ?_ ?_
  rotate_left 2
  · (intro w hSw; (try dsimp only at hSw); go_simp; (try with_reducible rfl))
  (try simp only [Act.put, tkA, tkB, tkC])
  refine tk (v := ?_) 1 ⟨some 8, _, _, _, _, _⟩ rfl ?_ ?_
  rotate_left 2
  · (intro w hSw; (try dsimp only at hSw); go_simp; (try with_reducible rfl))
  (try simp only [Act.put, tkA, tkB, tkC])
  refine tk (v := ?_) 2 ⟨some 9, _, _, _, _, _⟩ rfl ?_ ?_
  rotate_left 2
  · (intro w hSw; (try dsimp only at hSw); go_simp; (try with_reducible rfl))
  (try simp only [Act.put, tkA, tkB, tkC])
  refine wpAnyH_ready (rs := [3]) (by kernel_rfl) (by simp) ?_
  refine AllReadyH.cons (o := ⟨some 10, _, _, _, _, _⟩) rfl (fun K hK => ?_) AllReadyH.nil
  go_simp
  (go_at_call 177; (with_reducible refine (impl_ratMin [.bool q.1.1, .slice qa qn qc, .slice qd qm qe] q [.bool r.1.1, .slice ra rn rc, .slice rd rm re] r _ (Ty.at_more Hq.out mC) Wq.out (Ty.at_more Hr.out mC) Wr.out Kq.out Kr.out).mono ?_); rintro e w1 ⟨u1, v1, rfl, hb1, g1⟩; obtain ⟨r1a, r1n, r1c, r1d, r1m, r1e, e9⟩ := sh_Rat g1; simp only [List.cons.injEq, and_true, true_and] at e9; obtain ⟨e8, e9⟩ := e9; subst e8; subst e9; have G1 := Lib.hid g1; clear g1; have HX1 := More.trans HX (show More _ w1 from mC); have HB1 := HB _ HX1; have hz1 := More.size HX1; (try simp at hz1); have hb1 := hb1)
  refine hK.out _ _ ?_ (fun hHeld => ?_)
  · first | exact tC | exact mC2
  clear hK K
  (try simp only [Act.put, tkA, tkB, tkC])
  refine wpAnyH_ready (rs := [4]) (by kernel_rfl) (by simp) ?_
  refine AllReadyH.cons (o := ⟨some 11, _, _, _, _, _⟩) rfl (fun K hK => ?_) AllReadyH.nil
  go_simp
  (go_at_call 98; (with_reducible refine (impl_ratCmpX p p.1.1 (.slice pa pn pc) (.slice pd pm pe) (minQ q r) (minQ q r).1.1 (.slice r1a r1n r1c) (.slice r1d r1m r1e) _ Kp.out KMminqr.out (Ty.at_more Hp.out mC) (Ty.at_more G1.out mC)).mono ?_); rintro e w2 ⟨rfl, hb2⟩; rw [C.out]; have HX2 := More.trans HX (show More _ w2 from mC); have HB2 := HB _ HX2; have hz2 := More.size HX2; (try simp at hz2); have hb2 := hb2)
  refine hK.out _ _ ?_ (fun hHeld => ?_)
  · first | exact tC | exact mC2
  clear hK K
  (try simp only [Act.put, tkA, tkB, tkC])
  refine tk (v := ?_) 5 ⟨some 12, _, _, _, _, _⟩ rfl ?_ ?_
  rotate_left 2
  · (intro w hSw; (try dsimp only at hSw); go_simp; (try with_reducible rfl))
  (try simp only [Act.put, tkA, tkB, tkC])
  refine tk (v := ?_) 6 ⟨some 13, _, _, _, _, _⟩ rfl ?_ ?_
  rotate_left 2
  · (intro w hSw; (try dsimp only at hSw); go_simp; (try with_reducible rfl))
  (try simp only [Act.put, tkA, tkB, tkC])
  refine tk (v := ?_) 7 ⟨some 14, _, _, _, _, _⟩ rfl ?_ ?_
  rotate_left 2
  · (intro w hSw; (try dsimp only at hSw); go_simp; (try with_reducible rfl))
  (try simp only [Act.put, tkA, tkB, tkC])
  refine tk (v := ?_) 8 ⟨some 15, _, _, _, _, _⟩ rfl ?_ ?_
  rotate_left 2
  · (intro w hSw; (try dsimp only at hSw); go_simp; (try with_reducible rfl))
  (try simp only [Act.put, tkA, tkB, tkC])
  refine tk (v := ?_) 9 ⟨some 16, _, _, _, _, _⟩ rfl ?_ ?_
  rotate_left 2
  · (intro w hSw; (try dsimp only at hSw); go_simp; (try with_reducible rfl))
  (try simp only [Act.put, tkA, tkB, tkC])
  refine wpAnyH_ready (rs := [10]) (by kernel_rfl) (by simp) ?_
  refine AllReadyH.cons (o := ⟨some 17, _, _, _, _, _⟩) rfl (fun K hK => ?_) AllReadyH.nil
  go_simp
  (go_at_call 176; (with_reducible refine (impl_ratMax [.bool q.1.1, .slice qa qn qc, .slice qd qm qe] q [.bool r.1.1, .slice ra rn rc, .slice rd rm re] r _ (Ty.at_more Hq.out mC) Wq.out (Ty.at_more Hr.out mC) Wr.out Kq.out Kr.out).mono ?_); rintro e w3 ⟨u3, v3, rfl, hb3, g3⟩; obtain ⟨r3a, r3n, r3c, r3d, r3m, r3e, e9⟩ := sh_Rat g3; simp only [List.cons.injEq, and_true, true_and] at e9; obtain ⟨e8, e9⟩ := e9; subst e8; subst e9; have G3 := Lib.hid g3; clear g3; have HX3 := More.trans HX (show More _ w3 from mC); have HB3 := HB _ HX3; have hz3 := More.size HX3; (try simp at hz3); have hb3 := hb3)
  refine hK.out _ _ ?_ (fun hHeld => ?_)
  · first | exact tC | exact mC2
  clear hK K
  (try simp only [Act.put, tkA, tkB, tkC])
  refine wpAnyH_ready (rs := [11]) (by kernel_rfl) (by simp) ?_
  refine AllReadyH.cons (o := ⟨some 18, _, _, _, _, _⟩) rfl (fun K hK => ?_) AllReadyH.nil
  go_simp
  (go_at_call 98; (with_reducible refine (impl_ratCmpX p p.1.1 (.slice pa pn pc) (.slice pd pm pe) (maxQ q r) (maxQ q r).1.1 (.slice r3a r3n r3c) (.slice r3d r3m r3e) _ Kp.out KMmaxqr.out (Ty.at_more Hp.out mC) (Ty.at_more G3.out mC)).mono ?_); rintro e w4 ⟨rfl, hb4⟩; rw [D.out]; have HX4 := More.trans HX (show More _ w4 from mC); have HB4 := HB _ HX4; have hz4 := More.size HX4; (try simp at hz4); have hb4 := hb4)
  refine hK.out _ _ ?_ (fun hHeld => ?_)
  · first | exact tC | exact mC2
  clear hK K
  (try simp only [Act.put, tkA, tkB, tkC])
  refine tk (v := ?_) 12 ⟨some 19, _, _, _, _, _⟩ rfl ?_ ?_
  rotate_left 2
  · (intro w hSw; (try dsimp only at hSw); go_simp; (try with_reducible rfl))
  (try simp only [Act.put, tkA, tkB, tkC])
  refine tk (v := ?_) 13 ⟨some 20, _, _, _, _, _⟩ rfl ?_ ?_
  rotate_left 2
  · (intro w hSw; (try dsimp only at hSw); go_simp; (try with_reducible rfl))
  (try simp only [Act.put, tkA, tkB, tkC])
  refine tk (v := ?_) 14 ⟨some 6, _, _, _, _, _⟩ rfl ?_ ?_
  rotate_left 2
  · (intro w hSw; (try dsimp only at hSw); go_simp; (try with_reducible rfl))
  (try simp only [Act.put, tkA, tkB, tkC])
  refine wpAnyH_done (by kernel_rfl) ?_ _
  go_wp2_with fail
  go_ret
  exact ⟨ret_bool (by first | (simp [betB, C.out, D.out]; done) | (simp [betB, C.out, D.out] <;> omega)), mC⟩
set_option maxRecDepth 8000 in
set_option maxHeartbeats 12800000 in
theorem impl_isInSpan (cs0 : List Value) (a1 a2 : QR) (cs1 : List Value) (b1 b2 : QR) (cs2 : List Value) (c1 c2 : QR) (w : World) (hv0 : tPoint.at w cs0 (a1, a2)) (hw0 : wPoint (a1, a2) ≤ 1048576) (hv1 : tPoint.at w cs1 (b1, b2)) (hw1 : wPoint (b1, b2) ≤ 1048576) (hv2 : tPoint.at w cs2 (c1, c2)) (hw2 : wPoint (c1, c2) ≤ 1048576) (ka1 : ratOkB a1 = true) (ka2 : ratOkB a2 = true) (kb1 : ratOkB b1 = true) (kb2 : ratOkB b2 = true) (kc1 : ratOkB c1 = true) (kc2 : ratOkB c2 = true) :
    Calls Try.prog 181 #[.agg cs0.toArray, .agg cs1.toArray, .agg cs2.toArray] w fun e w' => e = .returned (.bool (spanPB (a1, a2) (b1, b2) (c1, c2))) ∧ More w w' := by
  obtain ⟨k0, d0, rfl, f0, e0⟩ := at_prod hv0
  have f1 := e0; clear e0
  have f0 : tRat.at w _ a1 := f0
  obtain ⟨a1a, a1n, a1c, a1d, a1m, a1e, rfl⟩ := sh_Rat f0
  have Ha1 := Lib.hid f0; clear f0
  try clear f0
  have Wa1 : Hid (wRat a1 ≤ 1048576) := Lib.hid (by have h := hw0; unfold wPoint at h; dsimp only at h; omega)
  have f1 : tRat.at w _ a2 := f1
  obtain ⟨a2a, a2n, a2c, a2d, a2m, a2e, rfl⟩ := sh_Rat f1
  have Ha2 := Lib.hid f1; clear f1
  try clear f1
  have Wa2 : Hid (wRat a2 ≤ 1048576) := Lib.hid (by have h := hw0; unfold wPoint at h; dsimp only at h; omega)
  try clear e0 e1
  have HV0 : Hid (tPoint.at w [.bool a1.1.1, .slice a1a a1n a1c, .slice a1d a1m a1e, .bool a2.1.1, .slice a2a a2n a2c, .slice a2d a2m a2e] (a1, a2)) := Lib.hid hv0; have HW0 := Lib.hid hw0; clear hv0 hw0
  obtain ⟨k0, d0, rfl, f0, e0⟩ := at_prod hv1
  have f1 := e0; clear e0
  have f0 : tRat.at w _ b1 := f0
  obtain ⟨b1a, b1n, b1c, b1d, b1m, b1e, rfl⟩ := sh_Rat f0
  have Hb1 := Lib.hid f0; clear f0
  try clear f0
  have Wb1 : Hid (wRat b1 ≤ 1048576) := Lib.hid (by have h := hw1; unfold wPoint at h; dsimp only at h; omega)
  have f1 : tRat.at w _ b2 := f1
  obtain ⟨b2a, b2n, b2c, b2d, b2m, b2e, rfl⟩ := sh_Rat f1
  have Hb2 := Lib.hid f1; clear f1
  try clear f1
  have Wb2 : Hid (wRat b2 ≤ 1048576) := Lib.hid (by have h := hw1; unfold wPoint at h; dsimp only at h; omega)
  try clear e0 e1
  have HV1 : Hid (tPoint.at w [.bool b1.1.1, .slice b1a b1n b1c, .slice b1d b1m b1e, .bool b2.1.1, .slice b2a b2n b2c, .slice b2d b2m b2e] (b1, b2)) := Lib.hid hv1; have HW1 := Lib.hid hw1; clear hv1 hw1
  obtain ⟨k0, d0, rfl, f0, e0⟩ := at_prod hv2
  have f1 := e0; clear e0
  have f0 : tRat.at w _ c1 := f0
  obtain ⟨c1a, c1n, c1c, c1d, c1m, c1e, rfl⟩ := sh_Rat f0
  have Hc1 := Lib.hid f0; clear f0
  try clear f0
  have Wc1 : Hid (wRat c1 ≤ 1048576) := Lib.hid (by have h := hw2; unfold wPoint at h; dsimp only at h; omega)
  have f1 : tRat.at w _ c2 := f1
  obtain ⟨c2a, c2n, c2c, c2d, c2m, c2e, rfl⟩ := sh_Rat f1
  have Hc2 := Lib.hid f1; clear f1
  try clear f1
  have Wc2 : Hid (wRat c2 ≤ 1048576) := Lib.hid (by have h := hw2; unfold wPoint at h; dsimp only at h; omega)
  try clear e0 e1
  have HV2 : Hid (tPoint.at w [.bool c1.1.1, .slice c1a c1n c1c, .slice c1d c1m c1e, .bool c2.1.1, .slice c2a c2n c2c, .slice c2d c2m c2e] (c1, c2)) := Lib.hid hv2; have HW2 := Lib.hid hw2; clear hv2 hw2
  have Ka1 := Lib.hid ka1; clear ka1
  have Ka2 := Lib.hid ka2; clear ka2
  have Kb1 := Lib.hid kb1; clear kb1
  have Kb2 := Lib.hid kb2; clear kb2
  have Kc1 := Lib.hid kc1; clear kc1
  have Kc2 := Lib.hid kc2; clear kc2
  show Calls Try.prog 181 #[.agg #[.bool a1.1.1, .slice a1a a1n a1c, .slice a1d a1m a1e, .bool a2.1.1, .slice a2a a2n a2c, .slice a2d a2m a2e], .agg #[.bool b1.1.1, .slice b1a b1n b1c, .slice b1d b1m b1e, .bool b2.1.1, .slice b2a b2n b2c, .slice b2d b2m b2e], .agg #[.bool c1.1.1, .slice c1a c1n c1c, .slice c1d c1m c1e, .bool c2.1.1, .slice c2a c2n c2c, .slice c2d c2m c2e]] w _
  rcases Bool.eq_false_or_eq_true (betB a1 b1 c1) with B1k | B1k
  rotate_left
  · have B1 := Lib.hid B1k; clear B1k
    have HX := More.refl (((w.alloc (.cells #[.bool a1.1.1, .slice a1a a1n a1c, .slice a1d a1m a1e, .bool a2.1.1, .slice a2a a2n a2c, .slice a2d a2m a2e] 89)).alloc (.cells #[.bool b1.1.1, .slice b1a b1n b1c, .slice b1d b1m b1e, .bool b2.1.1, .slice b2a b2n b2c, .slice b2d b2m b2e] 89)).alloc (.cells #[.bool c1.1.1, .slice c1a c1n c1c, .slice c1d c1m c1e, .bool c2.1.1, .slice c2a c2n c2c, .slice c2d c2m c2e] 89))
    have HB := fun (w' : World) (h : More (((w.alloc (.cells #[.bool a1.1.1, .slice a1a a1n a1c, .slice a1d a1m a1e, .bool a2.1.1, .slice a2a a2n a2c, .slice a2d a2m a2e] 89)).alloc (.cells #[.bool b1.1.1, .slice b1a b1n b1c, .slice b1d b1m b1e, .bool b2.1.1, .slice b2a b2n b2c, .slice b2d b2m b2e] 89)).alloc (.cells #[.bool c1.1.1, .slice c1a c1n c1c, .slice c1d c1m c1e, .bool c2.1.1, .slice c2a c2n c2c, .slice c2d c2m c2e] 89)) w') => And.intro (bx6 (w.heap.size) (by simp) (More.un (More.un h))) (And.intro (bx6 (w.heap.size + 1) (by simp) (More.un h)) (bx6 (w.heap.size + 1 + 1) (by simp) h))
    have HC := fun (w' : World) (h : Turns [] _ w') => HB w' (Turns.more h)
    go_enter Try.func181, Try.ntmps181
    go_wp2_with (first | (go_at_call 214; (with_reducible refine (impl_isBetween [.bool a1.1.1, .slice a1a a1n a1c, .slice a1d a1m a1e] a1 [.bool b1.1.1, .slice b1a b1n b1c, .slice b1d b1m b1e] b1 [.bool c1.1.1, .slice c1a c1n c1c, .slice c1d c1m c1e] c1 _ (Ty.at_more Ha1.out mC) Wa1.out (Ty.at_more Hb1.out mC) Wb1.out (Ty.at_more Hc1.out mC) Wc1.out Ka1.out Kb1.out Kc1.out).mono ?_); rintro e w1 ⟨rfl, hb1⟩; have HX1 := More.trans HX (show More _ w1 from mC); have HB1 := HB _ HX1; have hz1 := More.size HX1; (try simp at hz1); have hb1 := hb1; rw [B1.out]))
    skip
    go_ret
    exact ⟨ret_bool (by simp [spanPB, B1.out]), mC⟩
  have B1 := Lib.hid B1k; clear B1k
  rcases Bool.eq_false_or_eq_true (betB a2 b2 c2) with B2k | B2k
  rotate_left
  · have B2 := Lib.hid B2k; clear B2k
    have HX := More.refl (((w.alloc (.cells #[.bool a1.1.1, .slice a1a a1n a1c, .slice a1d a1m a1e, .bool a2.1.1, .slice a2a a2n a2c, .slice a2d a2m a2e] 89)).alloc (.cells #[.bool b1.1.1, .slice b1a b1n b1c, .slice b1d b1m b1e, .bool b2.1.1, .slice b2a b2n b2c, .slice b2d b2m b2e] 89)).alloc (.cells #[.bool c1.1.1, .slice c1a c1n c1c, .slice c1d c1m c1e, .bool c2.1.1, .slice c2a c2n c2c, .slice c2d c2m c2e] 89))
    have HB := fun (w' : World) (h : More (((w.alloc (.cells #[.bool a1.1.1, .slice a1a a1n a1c, .slice a1d a1m a1e, .bool a2.1.1, .slice a2a a2n a2c, .slice a2d a2m a2e] 89)).alloc (.cells #[.bool b1.1.1, .slice b1a b1n b1c, .slice b1d b1m b1e, .bool b2.1.1, .slice b2a b2n b2c, .slice b2d b2m b2e] 89)).alloc (.cells #[.bool c1.1.1, .slice c1a c1n c1c, .slice c1d c1m c1e, .bool c2.1.1, .slice c2a c2n c2c, .slice c2d c2m c2e] 89)) w') => And.intro (bx6 (w.heap.size) (by simp) (More.un (More.un h))) (And.intro (bx6 (w.heap.size + 1) (by simp) (More.un h)) (bx6 (w.heap.size + 1 + 1) (by simp) h))
    have HC := fun (w' : World) (h : Turns [] _ w') => HB w' (Turns.more h)
    go_enter Try.func181, Try.ntmps181
    go_wp2_with (first | (go_at_call 214; (with_reducible refine (impl_isBetween [.bool a1.1.1, .slice a1a a1n a1c, .slice a1d a1m a1e] a1 [.bool b1.1.1, .slice b1a b1n b1c, .slice b1d b1m b1e] b1 [.bool c1.1.1, .slice c1a c1n c1c, .slice c1d c1m c1e] c1 _ (Ty.at_more Ha1.out mC) Wa1.out (Ty.at_more Hb1.out mC) Wb1.out (Ty.at_more Hc1.out mC) Wc1.out Ka1.out Kb1.out Kc1.out).mono ?_); rintro e w1 ⟨rfl, hb1⟩; have HX1 := More.trans HX (show More _ w1 from mC); have HB1 := HB _ HX1; have hz1 := More.size HX1; (try simp at hz1); have hb1 := hb1; rw [B1.out]) | (go_at_call 214; (with_reducible refine (impl_isBetween [.bool a2.1.1, .slice a2a a2n a2c, .slice a2d a2m a2e] a2 [.bool b2.1.1, .slice b2a b2n b2c, .slice b2d b2m b2e] b2 [.bool c2.1.1, .slice c2a c2n c2c, .slice c2d c2m c2e] c2 _ (Ty.at_more Ha2.out mC) Wa2.out (Ty.at_more Hb2.out mC) Wb2.out (Ty.at_more Hc2.out mC) Wc2.out Ka2.out Kb2.out Kc2.out).mono ?_); rintro e w2 ⟨rfl, hb2⟩; have HX2 := More.trans HX (show More _ w2 from mC); have HB2 := HB _ HX2; have hz2 := More.size HX2; (try simp at hz2); have hb2 := hb2; rw [B2.out]))
    skip
    go_ret
    exact ⟨ret_bool (by simp [spanPB, B1.out, B2.out]), mC⟩
  have B2 := Lib.hid B2k; clear B2k
  have HX := More.refl (((w.alloc (.cells #[.bool a1.1.1, .slice a1a a1n a1c, .slice a1d a1m a1e, .bool a2.1.1, .slice a2a a2n a2c, .slice a2d a2m a2e] 89)).alloc (.cells #[.bool b1.1.1, .slice b1a b1n b1c, .slice b1d b1m b1e, .bool b2.1.1, .slice b2a b2n b2c, .slice b2d b2m b2e] 89)).alloc (.cells #[.bool c1.1.1, .slice c1a c1n c1c, .slice c1d c1m c1e, .bool c2.1.1, .slice c2a c2n c2c, .slice c2d c2m c2e] 89))
  have HB := fun (w' : World) (h : More (((w.alloc (.cells #[.bool a1.1.1, .slice a1a a1n a1c, .slice a1d a1m a1e, .bool a2.1.1, .slice a2a a2n a2c, .slice a2d a2m a2e] 89)).alloc (.cells #[.bool b1.1.1, .slice b1a b1n b1c, .slice b1d b1m b1e, .bool b2.1.1, .slice b2a b2n b2c, .slice b2d b2m b2e] 89)).alloc (.cells #[.bool c1.1.1, .slice c1a c1n c1c, .slice c1d c1m c1e, .bool c2.1.1, .slice c2a c2n c2c, .slice c2d c2m c2e] 89)) w') => And.intro (bx6 (w.heap.size) (by simp) (More.un (More.un h))) (And.intro (bx6 (w.heap.size + 1) (by simp) (More.un h)) (bx6 (w.heap.size + 1 + 1) (by simp) h))
  have HC := fun (w' : World) (h : Turns [] _ w') => HB w' (Turns.more h)
  go_enter Try.func181, Try.ntmps181
  go_wp2_with (first | (go_at_call 214; (with_reducible refine (impl_isBetween [.bool a1.1.1, .slice a1a a1n a1c, .slice a1d a1m a1e] a1 [.bool b1.1.1, .slice b1a b1n b1c, .slice b1d b1m b1e] b1 [.bool c1.1.1, .slice c1a c1n c1c, .slice c1d c1m c1e] c1 _ (Ty.at_more Ha1.out mC) Wa1.out (Ty.at_more Hb1.out mC) Wb1.out (Ty.at_more Hc1.out mC) Wc1.out Ka1.out Kb1.out Kc1.out).mono ?_); rintro e w1 ⟨rfl, hb1⟩; have HX1 := More.trans HX (show More _ w1 from mC); have HB1 := HB _ HX1; have hz1 := More.size HX1; (try simp at hz1); have hb1 := hb1; rw [B1.out]) | (go_at_call 214; (with_reducible refine (impl_isBetween [.bool a2.1.1, .slice a2a a2n a2c, .slice a2d a2m a2e] a2 [.bool b2.1.1, .slice b2a b2n b2c, .slice b2d b2m b2e] b2 [.bool c2.1.1, .slice c2a c2n c2c, .slice c2d c2m c2e] c2 _ (Ty.at_more Ha2.out mC) Wa2.out (Ty.at_more Hb2.out mC) Wb2.out (Ty.at_more Hc2.out mC) Wc2.out Ka2.out Kb2.out Kc2.out).mono ?_); rintro e w2 ⟨rfl, hb2⟩; have HX2 := More.trans HX (show More _ w2 from mC); have HB2 := HB _ HX2; have hz2 := More.size HX2; (try simp at hz2); have hb2 := hb2; rw [B2.out]))
  skip
  go_ret
  exact ⟨ret_bool (by first | (simp [spanPB, B1.out, B2.out]; done) | (simp [spanPB, B1.out, B2.out] <;> omega)), mC⟩
set_option maxRecDepth 8000 in
set_option maxHeartbeats 12800000 in
theorem spec_l08Between (cs0 : List Value) (a1 a2 : QR) (cs1 : List Value) (b1 b2 : QR) (cs2 : List Value) (c1 c2 : QR) (w : World) (hv0 : tPoint.at w cs0 (a1, a2)) (hw0 : wPoint (a1, a2) ≤ 1048576) (hv1 : tPoint.at w cs1 (b1, b2)) (hw1 : wPoint (b1, b2) ≤ 1048576) (hv2 : tPoint.at w cs2 (c1, c2)) (hw2 : wPoint (c1, c2) ≤ 1048576) (ka1 : ratOkB a1 = true) (ka2 : ratOkB a2 = true) (kb1 : ratOkB b1 = true) (kb2 : ratOkB b2 = true) (kc1 : ratOkB c1 = true) (kc2 : ratOkB c2 = true) :
    Calls Try.prog 129 #[.agg cs0.toArray, .agg cs1.toArray, .agg cs2.toArray] w fun e w' => e = .returned (.bool (spanPB (a1, a2) (b1, b2) (c1, c2))) ∧ More w w' := by
  obtain ⟨k0, d0, rfl, f0, e0⟩ := at_prod hv0
  have f1 := e0; clear e0
  have f0 : tRat.at w _ a1 := f0
  obtain ⟨a1a, a1n, a1c, a1d, a1m, a1e, rfl⟩ := sh_Rat f0
  have Ha1 := Lib.hid f0; clear f0
  try clear f0
  have Wa1 : Hid (wRat a1 ≤ 1048576) := Lib.hid (by have h := hw0; unfold wPoint at h; dsimp only at h; omega)
  have f1 : tRat.at w _ a2 := f1
  obtain ⟨a2a, a2n, a2c, a2d, a2m, a2e, rfl⟩ := sh_Rat f1
  have Ha2 := Lib.hid f1; clear f1
  try clear f1
  have Wa2 : Hid (wRat a2 ≤ 1048576) := Lib.hid (by have h := hw0; unfold wPoint at h; dsimp only at h; omega)
  try clear e0 e1
  have HV0 : Hid (tPoint.at w [.bool a1.1.1, .slice a1a a1n a1c, .slice a1d a1m a1e, .bool a2.1.1, .slice a2a a2n a2c, .slice a2d a2m a2e] (a1, a2)) := Lib.hid hv0; have HW0 := Lib.hid hw0; clear hv0 hw0
  obtain ⟨k0, d0, rfl, f0, e0⟩ := at_prod hv1
  have f1 := e0; clear e0
  have f0 : tRat.at w _ b1 := f0
  obtain ⟨b1a, b1n, b1c, b1d, b1m, b1e, rfl⟩ := sh_Rat f0
  have Hb1 := Lib.hid f0; clear f0
  try clear f0
  have Wb1 : Hid (wRat b1 ≤ 1048576) := Lib.hid (by have h := hw1; unfold wPoint at h; dsimp only at h; omega)
  have f1 : tRat.at w _ b2 := f1
  obtain ⟨b2a, b2n, b2c, b2d, b2m, b2e, rfl⟩ := sh_Rat f1
  have Hb2 := Lib.hid f1; clear f1
  try clear f1
  have Wb2 : Hid (wRat b2 ≤ 1048576) := Lib.hid (by have h := hw1; unfold wPoint at h; dsimp only at h; omega)
  try clear e0 e1
  have HV1 : Hid (tPoint.at w [.bool b1.1.1, .slice b1a b1n b1c, .slice b1d b1m b1e, .bool b2.1.1, .slice b2a b2n b2c, .slice b2d b2m b2e] (b1, b2)) := Lib.hid hv1; have HW1 := Lib.hid hw1; clear hv1 hw1
  obtain ⟨k0, d0, rfl, f0, e0⟩ := at_prod hv2
  have f1 := e0; clear e0
  have f0 : tRat.at w _ c1 := f0
  obtain ⟨c1a, c1n, c1c, c1d, c1m, c1e, rfl⟩ := sh_Rat f0
  have Hc1 := Lib.hid f0; clear f0
  try clear f0
  have Wc1 : Hid (wRat c1 ≤ 1048576) := Lib.hid (by have h := hw2; unfold wPoint at h; dsimp only at h; omega)
  have f1 : tRat.at w _ c2 := f1
  obtain ⟨c2a, c2n, c2c, c2d, c2m, c2e, rfl⟩ := sh_Rat f1
  have Hc2 := Lib.hid f1; clear f1
  try clear f1
  have Wc2 : Hid (wRat c2 ≤ 1048576) := Lib.hid (by have h := hw2; unfold wPoint at h; dsimp only at h; omega)
  try clear e0 e1
  have HV2 : Hid (tPoint.at w [.bool c1.1.1, .slice c1a c1n c1c, .slice c1d c1m c1e, .bool c2.1.1, .slice c2a c2n c2c, .slice c2d c2m c2e] (c1, c2)) := Lib.hid hv2; have HW2 := Lib.hid hw2; clear hv2 hw2
  have Ka1 := Lib.hid ka1; clear ka1
  have Ka2 := Lib.hid ka2; clear ka2
  have Kb1 := Lib.hid kb1; clear kb1
  have Kb2 := Lib.hid kb2; clear kb2
  have Kc1 := Lib.hid kc1; clear kc1
  have Kc2 := Lib.hid kc2; clear kc2
  have KMminb1c1 := Lib.hid (minQ_ok Kb1.out Kc1.out); have WMminb1c1 := Lib.hid (minQ_w Wb1.out Wc1.out)
  have KMmaxb1c1 := Lib.hid (maxQ_ok Kb1.out Kc1.out); have WMmaxb1c1 := Lib.hid (maxQ_w Wb1.out Wc1.out)
  have KMminb2c2 := Lib.hid (minQ_ok Kb2.out Kc2.out); have WMminb2c2 := Lib.hid (minQ_w Wb2.out Wc2.out)
  have KMmaxb2c2 := Lib.hid (maxQ_ok Kb2.out Kc2.out); have WMmaxb2c2 := Lib.hid (maxQ_w Wb2.out Wc2.out)
  show Calls Try.prog 129 #[.agg #[.bool a1.1.1, .slice a1a a1n a1c, .slice a1d a1m a1e, .bool a2.1.1, .slice a2a a2n a2c, .slice a2d a2m a2e], .agg #[.bool b1.1.1, .slice b1a b1n b1c, .slice b1d b1m b1e, .bool b2.1.1, .slice b2a b2n b2c, .slice b2d b2m b2e], .agg #[.bool c1.1.1, .slice c1a c1n c1c, .slice c1d c1m c1e, .bool c2.1.1, .slice c2a c2n c2c, .slice c2d c2m c2e]] w _
  obtain ⟨c0, c0h⟩ : ∃ c, rCmp a1 (minQ b1 c1) = c := ⟨_, rfl⟩
  have C := Lib.hid c0h; clear c0h
  obtain ⟨d0, d0h⟩ : ∃ c, rCmp a1 (maxQ b1 c1) = c := ⟨_, rfl⟩
  have D := Lib.hid d0h; clear d0h
  obtain ⟨e0, e0h⟩ : ∃ c, rCmp a2 (minQ b2 c2) = c := ⟨_, rfl⟩
  have E := Lib.hid e0h; clear e0h
  obtain ⟨f0, f0h⟩ : ∃ c, rCmp a2 (maxQ b2 c2) = c := ⟨_, rfl⟩
  have F := Lib.hid f0h; clear f0h
  rcases (show 0 ≤ c0 ∨ c0 < 0 by omega) with hC | hC
  rotate_left
  · have hCd : decide (0 ≤ c0) = false := decide_eq_false (by omega)
    have HX := More.refl (((w.alloc (.cells #[.bool a1.1.1, .slice a1a a1n a1c, .slice a1d a1m a1e, .bool a2.1.1, .slice a2a a2n a2c, .slice a2d a2m a2e] 89)).alloc (.cells #[.bool b1.1.1, .slice b1a b1n b1c, .slice b1d b1m b1e, .bool b2.1.1, .slice b2a b2n b2c, .slice b2d b2m b2e] 89)).alloc (.cells #[.bool c1.1.1, .slice c1a c1n c1c, .slice c1d c1m c1e, .bool c2.1.1, .slice c2a c2n c2c, .slice c2d c2m c2e] 89))
    have HB := fun (w' : World) (h : More (((w.alloc (.cells #[.bool a1.1.1, .slice a1a a1n a1c, .slice a1d a1m a1e, .bool a2.1.1, .slice a2a a2n a2c, .slice a2d a2m a2e] 89)).alloc (.cells #[.bool b1.1.1, .slice b1a b1n b1c, .slice b1d b1m b1e, .bool b2.1.1, .slice b2a b2n b2c, .slice b2d b2m b2e] 89)).alloc (.cells #[.bool c1.1.1, .slice c1a c1n c1c, .slice c1d c1m c1e, .bool c2.1.1, .slice c2a c2n c2c, .slice c2d c2m c2e] 89)) w') => And.intro (bx6 (w.heap.size) (by simp) (More.un (More.un h))) (And.intro (bx6 (w.heap.size + 1) (by simp) (More.un h)) (bx6 (w.heap.size + 1 + 1) (by simp) h))
    have HC := fun (w' : World) (h : Turns [] _ w') => HB w' (Turns.more h)
    go_enter Try.func129, Try.ntmps129
    go_wp2_with fail
    refine wp_region_held_drew (S := (fun w' => Turns [] (((w.alloc (.cells #[.bool a1.1.1, .slice a1a a1n a1c, .slice a1d a1m a1e, .bool a2.1.1, .slice a2a a2n a2c, .slice a2d a2m a2e] 89)).alloc (.cells #[.bool b1.1.1, .slice b1a b1n b1c, .slice b1d b1m b1e, .bool b2.1.1, .slice b2a b2n b2c, .slice b2d b2m b2e] 89)).alloc (.cells #[.bool c1.1.1, .slice c1a c1n c1c, .slice c1d c1m c1e, .bool c2.1.1, .slice c2a c2n c2c, .slice c2d c2m c2e] 89)) w')) (by kernel_rfl) ?_ (fun hHeld => ?_)
    · first | exact tC | exact mC2
    refine tk (v := ?_) 0 ⟨some 8, _, _, _, _, _⟩ rfl ?_ ?_
    rotate_left 2
    · (intro w hSw; (try dsimp only at hSw); go_simp; (try with_reducible rfl))
    (try simp only [Act.put, tkA, tkB, tkC])
    refine tk (v := ?_) 1 ⟨some 9, _, _, _, _, _⟩ rfl ?_ ?_
    rotate_left 2
    · (intro w hSw; (try dsimp only at hSw); go_simp; (try with_reducible rfl))
    (try simp only [Act.put, tkA, tkB, tkC])
    refine tk (v := ?_) 2 ⟨some 10, _, _, _, _, _⟩ rfl ?_ ?_
    rotate_left 2
    · (intro w hSw; (try dsimp only at hSw); go_simp; (try with_reducible rfl))
    (try simp only [Act.put, tkA, tkB, tkC])
    refine tk (v := ?_) 3 ⟨some 11, _, _, _, _, _⟩ rfl ?_ ?_
    rotate_left 2
    · (intro w hSw; (try dsimp only at hSw); go_simp; (try with_reducible rfl))
    (try simp only [Act.put, tkA, tkB, tkC])
    refine tk (v := ?_) 4 ⟨some 12, _, _, _, _, _⟩ rfl ?_ ?_
    rotate_left 2
    · (intro w hSw; (try dsimp only at hSw); go_simp; (try with_reducible rfl))
    (try simp only [Act.put, tkA, tkB, tkC])
    refine tk (v := ?_) 5 ⟨some 13, _, _, _, _, _⟩ rfl ?_ ?_
    rotate_left 2
    · (intro w hSw; (try dsimp only at hSw); go_simp; (try with_reducible rfl))
    (try simp only [Act.put, tkA, tkB, tkC])
    refine wpAnyH_ready (rs := [6]) (by kernel_rfl) (by simp) ?_
    refine AllReadyH.cons (o := ⟨some 14, _, _, _, _, _⟩) rfl (fun K hK => ?_) AllReadyH.nil
    go_simp
    (go_at_call 124; (with_reducible refine (spec_RatMin [.bool b1.1.1, .slice b1a b1n b1c, .slice b1d b1m b1e] b1 [.bool c1.1.1, .slice c1a c1n c1c, .slice c1d c1m c1e] c1 _ (Ty.at_more Hb1.out mC) Wb1.out (Ty.at_more Hc1.out mC) Wc1.out Kb1.out Kc1.out).mono ?_); rintro e w1 ⟨u1, v1, rfl, hb1, g1⟩; obtain ⟨r1a, r1n, r1c, r1d, r1m, r1e, e9⟩ := sh_Rat g1; simp only [List.cons.injEq, and_true, true_and] at e9; obtain ⟨e8, e9⟩ := e9; subst e8; subst e9; have G1 := Lib.hid g1; clear g1; have HX1 := More.trans HX (show More _ w1 from mC); have HB1 := HB _ HX1; have hz1 := More.size HX1; (try simp at hz1); have hb1 := hb1)
    refine hK.out _ _ ?_ (fun hHeld => ?_)
    · first | exact tC | exact mC2
    clear hK K
    (try simp only [Act.put, tkA, tkB, tkC])
    refine wpAnyH_ready (rs := [7]) (by kernel_rfl) (by simp) ?_
    refine AllReadyH.cons (o := ⟨some 15, _, _, _, _, _⟩) rfl (fun K hK => ?_) AllReadyH.nil
    go_simp
    (go_at_call 96; (with_reducible refine (spec_RatCmpX a1 a1.1.1 (.slice a1a a1n a1c) (.slice a1d a1m a1e) (minQ b1 c1) (minQ b1 c1).1.1 (.slice r1a r1n r1c) (.slice r1d r1m r1e) _ (Ty.at_more Ha1.out mC) Wa1.out (Ty.at_more G1.out mC) WMminb1c1.out).mono ?_); rintro e w2 ⟨rfl, hb2⟩; rw [C.out]; have HX2 := More.trans HX (show More _ w2 from mC); have HB2 := HB _ HX2; have hz2 := More.size HX2; (try simp at hz2); have hb2 := hb2)
    refine hK.out _ _ ?_ (fun hHeld => ?_)
    · first | exact tC | exact mC2
    clear hK K
    (try simp only [Act.put, tkA, tkB, tkC])
    refine tk (v := ?_) 8 ⟨some 16, _, _, _, _, _⟩ rfl ?_ ?_
    rotate_left 2
    · (intro w hSw; (try dsimp only at hSw); go_simp; (try with_reducible rfl))
    (try simp only [Act.put, tkA, tkB, tkC])
    refine tk (v := ?_) 9 ⟨some 17, _, _, _, _, _⟩ rfl ?_ ?_
    rotate_left 2
    · (intro w hSw; (try dsimp only at hSw); go_simp; (try with_reducible rfl))
    (try simp only [Act.put, tkA, tkB, tkC])
    refine tk0 10 ⟨some 18, _, _, _, _, _⟩ rfl ?_
    (try simp only [Act.put, tkA, tkB, tkC])
    refine tk0 11 ⟨some 19, _, _, _, _, _⟩ rfl ?_
    (try simp only [Act.put, tkA, tkB, tkC])
    refine tk0 12 ⟨some 20, _, _, _, _, _⟩ rfl ?_
    (try simp only [Act.put, tkA, tkB, tkC])
    refine tk0 13 ⟨some 21, _, _, _, _, _⟩ rfl ?_
    (try simp only [Act.put, tkA, tkB, tkC])
    refine tk0 14 ⟨some 22, _, _, _, _, _⟩ rfl ?_
    (try simp only [Act.put, tkA, tkB, tkC])
    refine tk0 15 ⟨some 23, _, _, _, _, _⟩ rfl ?_
    (try simp only [Act.put, tkA, tkB, tkC])
    refine tk0 16 ⟨some 24, _, _, _, _, _⟩ rfl ?_
    (try simp only [Act.put, tkA, tkB, tkC])
    refine tk0 17 ⟨some 25, _, _, _, _, _⟩ rfl ?_
    (try simp only [Act.put, tkA, tkB, tkC])
    refine tk0 18 ⟨some 26, _, _, _, _, _⟩ rfl ?_
    (try simp only [Act.put, tkA, tkB, tkC])
    refine tk (v := ?_) 19 ⟨some 27, _, _, _, _, _⟩ rfl ?_ ?_
    rotate_left 2
    · (intro w hSw; (try dsimp only at hSw); go_simp; (try with_reducible rfl))
    (try simp only [Act.put, tkA, tkB, tkC])
    refine tk (v := ?_) 20 ⟨some 7, _, _, _, _, _⟩ rfl ?_ ?_
    rotate_left 2
    · (intro w hSw; (try dsimp only at hSw); go_simp; (try with_reducible rfl))
    (try simp only [Act.put, tkA, tkB, tkC])
    refine wpAnyH_done (by kernel_rfl) ?_ _
    go_wp2_with fail
    refine wp_region_held_drew (S := (fun w' => Turns [] (((w.alloc (.cells #[.bool a1.1.1, .slice a1a a1n a1c, .slice a1d a1m a1e, .bool a2.1.1, .slice a2a a2n a2c, .slice a2d a2m a2e] 89)).alloc (.cells #[.bool b1.1.1, .slice b1a b1n b1c, .slice b1d b1m b1e, .bool b2.1.1, .slice b2a b2n b2c, .slice b2d b2m b2e] 89)).alloc (.cells #[.bool c1.1.1, .slice c1a c1n c1c, .slice c1d c1m c1e, .bool c2.1.1, .slice c2a c2n c2c, .slice c2d c2m c2e] 89)) w')) (by kernel_rfl) ?_ (fun hHeld => ?_)
    · first | exact tC | exact mC2
    refine tk (v := ?_) 0 ⟨some 28, _, _, _, _, _⟩ rfl ?_ ?_
    rotate_left 2
    · (intro w hSw; (try dsimp only at hSw); go_simp; (try with_reducible rfl))
    (try simp only [Act.put, tkA, tkB, tkC])
    refine tk (v := ?_) 1 ⟨some 29, _, _, _, _, _⟩ rfl ?_ ?_
    rotate_left 2
    · (intro w hSw; (try dsimp only at hSw); go_simp; (try with_reducible rfl))
    (try simp only [Act.put, tkA, tkB, tkC])
    refine tk0 2 ⟨some 30, _, _, _, _, _⟩ rfl ?_
    (try simp only [Act.put, tkA, tkB, tkC])
    refine tk0 3 ⟨some 31, _, _, _, _, _⟩ rfl ?_
    (try simp only [Act.put, tkA, tkB, tkC])
    refine tk0 4 ⟨some 32, _, _, _, _, _⟩ rfl ?_
    (try simp only [Act.put, tkA, tkB, tkC])
    refine tk0 5 ⟨some 33, _, _, _, _, _⟩ rfl ?_
    (try simp only [Act.put, tkA, tkB, tkC])
    refine tk0 6 ⟨some 34, _, _, _, _, _⟩ rfl ?_
    (try simp only [Act.put, tkA, tkB, tkC])
    refine tk0 7 ⟨some 35, _, _, _, _, _⟩ rfl ?_
    (try simp only [Act.put, tkA, tkB, tkC])
    refine tk0 8 ⟨some 36, _, _, _, _, _⟩ rfl ?_
    (try simp only [Act.put, tkA, tkB, tkC])
    refine tk0 9 ⟨some 37, _, _, _, _, _⟩ rfl ?_
    (try simp only [Act.put, tkA, tkB, tkC])
    refine tk0 10 ⟨some 38, _, _, _, _, _⟩ rfl ?_
    (try simp only [Act.put, tkA, tkB, tkC])
    refine tk (v := ?_) 11 ⟨some 39, _, _, _, _, _⟩ rfl ?_ ?_
    rotate_left 2
    · (intro w hSw; (try dsimp only at hSw); go_simp; (try with_reducible rfl))
    (try simp only [Act.put, tkA, tkB, tkC])
    refine tk (v := ?_) 12 ⟨some 40, _, _, _, _, _⟩ rfl ?_ ?_
    rotate_left 2
    · (intro w hSw; (try dsimp only at hSw); go_simp; (try with_reducible rfl))
    (try simp only [Act.put, tkA, tkB, tkC])
    refine tk0 13 ⟨some 41, _, _, _, _, _⟩ rfl ?_
    (try simp only [Act.put, tkA, tkB, tkC])
    refine tk0 14 ⟨some 42, _, _, _, _, _⟩ rfl ?_
    (try simp only [Act.put, tkA, tkB, tkC])
    refine tk0 15 ⟨some 43, _, _, _, _, _⟩ rfl ?_
    (try simp only [Act.put, tkA, tkB, tkC])
    refine tk0 16 ⟨some 44, _, _, _, _, _⟩ rfl ?_
    (try simp only [Act.put, tkA, tkB, tkC])
    refine tk0 17 ⟨some 45, _, _, _, _, _⟩ rfl ?_
    (try simp only [Act.put, tkA, tkB, tkC])
    refine tk0 18 ⟨some 46, _, _, _, _, _⟩ rfl ?_
    (try simp only [Act.put, tkA, tkB, tkC])
    refine tk0 19 ⟨some 47, _, _, _, _, _⟩ rfl ?_
    (try simp only [Act.put, tkA, tkB, tkC])
    refine tk0 20 ⟨some 48, _, _, _, _, _⟩ rfl ?_
    (try simp only [Act.put, tkA, tkB, tkC])
    refine tk0 21 ⟨some 49, _, _, _, _, _⟩ rfl ?_
    (try simp only [Act.put, tkA, tkB, tkC])
    refine tk (v := ?_) 22 ⟨some 50, _, _, _, _, _⟩ rfl ?_ ?_
    rotate_left 2
    · (intro w hSw; (try dsimp only at hSw); go_simp; (try with_reducible rfl))
    (try simp only [Act.put, tkA, tkB, tkC])
    refine tk (v := ?_) 23 ⟨some 6, _, _, _, _, _⟩ rfl ?_ ?_
    rotate_left 2
    · (intro w hSw; (try dsimp only at hSw); go_simp; (try with_reducible rfl))
    (try simp only [Act.put, tkA, tkB, tkC])
    refine wpAnyH_done (by kernel_rfl) ?_ _
    go_wp2_with fail
    go_ret
    exact ⟨ret_bool (by first | (simp [spanPB, betB, C.out, D.out, E.out, F.out]; done) | (simp [spanPB, betB, C.out, D.out, E.out, F.out] <;> omega)), mC⟩
  have hCd : decide (0 ≤ c0) = true := decide_eq_true (by omega)
  rcases (show d0 ≤ 0 ∨ 0 < d0 by omega) with hD | hD
  rotate_left
  · have hDd : decide (d0 ≤ 0) = false := decide_eq_false (by omega)
    have HX := More.refl (((w.alloc (.cells #[.bool a1.1.1, .slice a1a a1n a1c, .slice a1d a1m a1e, .bool a2.1.1, .slice a2a a2n a2c, .slice a2d a2m a2e] 89)).alloc (.cells #[.bool b1.1.1, .slice b1a b1n b1c, .slice b1d b1m b1e, .bool b2.1.1, .slice b2a b2n b2c, .slice b2d b2m b2e] 89)).alloc (.cells #[.bool c1.1.1, .slice c1a c1n c1c, .slice c1d c1m c1e, .bool c2.1.1, .slice c2a c2n c2c, .slice c2d c2m c2e] 89))
    have HB := fun (w' : World) (h : More (((w.alloc (.cells #[.bool a1.1.1, .slice a1a a1n a1c, .slice a1d a1m a1e, .bool a2.1.1, .slice a2a a2n a2c, .slice a2d a2m a2e] 89)).alloc (.cells #[.bool b1.1.1, .slice b1a b1n b1c, .slice b1d b1m b1e, .bool b2.1.1, .slice b2a b2n b2c, .slice b2d b2m b2e] 89)).alloc (.cells #[.bool c1.1.1, .slice c1a c1n c1c, .slice c1d c1m c1e, .bool c2.1.1, .slice c2a c2n c2c, .slice c2d c2m c2e] 89)) w') => And.intro (bx6 (w.heap.size) (by simp) (More.un (More.un h))) (And.intro (bx6 (w.heap.size + 1) (by simp) (More.un h)) (bx6 (w.heap.size + 1 + 1) (by simp) h))
    have HC := fun (w' : World) (h : Turns [] _ w') => HB w' (Turns.more h)
    go_enter Try.func129, Try.ntmps129
    go_wp2_with fail
    refine wp_region_held_drew (S := (fun w' => Turns [] (((w.alloc (.cells #[.bool a1.1.1, .slice a1a a1n a1c, .slice a1d a1m a1e, .bool a2.1.1, .slice a2a a2n a2c, .slice a2d a2m a2e] 89)).alloc (.cells #[.bool b1.1.1, .slice b1a b1n b1c, .slice b1d b1m b1e, .bool b2.1.1, .slice b2a b2n b2c, .slice b2d b2m b2e] 89)).alloc (.cells #[.bool c1.1.1, .slice c1a c1n c1c, .slice c1d c1m c1e, .bool c2.1.1, .slice c2a c2n c2c, .slice c2d c2m c2e] 89)) w')) (by kernel_rfl) ?_ (fun hHeld => ?_)
    · first | exact tC | exact mC2
    refine tk (v := ?_) 0 ⟨some 8, _, _, _, _, _⟩ rfl ?_ ?_
    rotate_left 2
    · (intro w hSw; (try dsimp only at hSw); go_simp; (try with_reducible rfl))
    (try simp only [Act.put, tkA, tkB, tkC])
    refine tk (v := ?_) 1 ⟨some 9, _, _, _, _, _⟩ rfl ?_ ?_
    rotate_left 2
    · (intro w hSw; (try dsimp only at hSw); go_simp; (try with_reducible rfl))
    (try simp only [Act.put, tkA, tkB, tkC])
    refine tk (v := ?_) 2 ⟨some 10, _, _, _, _, _⟩ rfl ?_ ?_
    rotate_left 2
    · (intro w hSw; (try dsimp only at hSw); go_simp; (try with_reducible rfl))
    (try simp only [Act.put, tkA, tkB, tkC])
    refine tk (v := ?_) 3 ⟨some 11, _, _, _, _, _⟩ rfl ?_ ?_
    rotate_left 2
    · (intro w hSw; (try dsimp only at hSw); go_simp; (try with_reducible rfl))
    (try simp only [Act.put, tkA, tkB, tkC])
    refine tk (v := ?_) 4 ⟨some 12, _, _, _, _, _⟩ rfl ?_ ?_
    rotate_left 2
    · (intro w hSw; (try dsimp only at hSw); go_simp; (try with_reducible rfl))
    (try simp only [Act.put, tkA, tkB, tkC])
    refine tk (v := ?_) 5 ⟨some 13, _, _, _, _, _⟩ rfl ?_ ?_
    rotate_left 2
    · (intro w hSw; (try dsimp only at hSw); go_simp; (try with_reducible rfl))
    (try simp only [Act.put, tkA, tkB, tkC])
    refine wpAnyH_ready (rs := [6]) (by kernel_rfl) (by simp) ?_
    refine AllReadyH.cons (o := ⟨some 14, _, _, _, _, _⟩) rfl (fun K hK => ?_) AllReadyH.nil
    go_simp
    (go_at_call 124; (with_reducible refine (spec_RatMin [.bool b1.1.1, .slice b1a b1n b1c, .slice b1d b1m b1e] b1 [.bool c1.1.1, .slice c1a c1n c1c, .slice c1d c1m c1e] c1 _ (Ty.at_more Hb1.out mC) Wb1.out (Ty.at_more Hc1.out mC) Wc1.out Kb1.out Kc1.out).mono ?_); rintro e w1 ⟨u1, v1, rfl, hb1, g1⟩; obtain ⟨r1a, r1n, r1c, r1d, r1m, r1e, e9⟩ := sh_Rat g1; simp only [List.cons.injEq, and_true, true_and] at e9; obtain ⟨e8, e9⟩ := e9; subst e8; subst e9; have G1 := Lib.hid g1; clear g1; have HX1 := More.trans HX (show More _ w1 from mC); have HB1 := HB _ HX1; have hz1 := More.size HX1; (try simp at hz1); have hb1 := hb1)
    refine hK.out _ _ ?_ (fun hHeld => ?_)
    · first | exact tC | exact mC2
    clear hK K
    (try simp only [Act.put, tkA, tkB, tkC])
    refine wpAnyH_ready (rs := [7]) (by kernel_rfl) (by simp) ?_
    refine AllReadyH.cons (o := ⟨some 15, _, _, _, _, _⟩) rfl (fun K hK => ?_) AllReadyH.nil
    go_simp
    (go_at_call 96; (with_reducible refine (spec_RatCmpX a1 a1.1.1 (.slice a1a a1n a1c) (.slice a1d a1m a1e) (minQ b1 c1) (minQ b1 c1).1.1 (.slice r1a r1n r1c) (.slice r1d r1m r1e) _ (Ty.at_more Ha1.out mC) Wa1.out (Ty.at_more G1.out mC) WMminb1c1.out).mono ?_); rintro e w2 ⟨rfl, hb2⟩; rw [C.out]; have HX2 := More.trans HX (show More _ w2 from mC); have HB2 := HB _ HX2; have hz2 := More.size HX2; (try simp at hz2); have hb2 := hb2)
    refine hK.out _ _ ?_ (fun hHeld => ?_)
    · first | exact tC | exact mC2
    clear hK K
    (try simp only [Act.put, tkA, tkB, tkC])
    refine tk (v := ?_) 8 ⟨some 16, _, _, _, _, _⟩ rfl ?_ ?_
    rotate_left 2
    · (intro w hSw; (try dsimp only at hSw); go_simp; (try with_reducible rfl))
    (try simp only [Act.put, tkA, tkB, tkC])
    refine tk (v := ?_) 9 ⟨some 17, _, _, _, _, _⟩ rfl ?_ ?_
    rotate_left 2
    · (intro w hSw; (try dsimp only at hSw); go_simp; (try with_reducible rfl))
    (try simp only [Act.put, tkA, tkB, tkC])
    refine tk (v := ?_) 10 ⟨some 18, _, _, _, _, _⟩ rfl ?_ ?_
    rotate_left 2
    · (intro w hSw; (try dsimp only at hSw); go_simp; (try with_reducible rfl))
    (try simp only [Act.put, tkA, tkB, tkC])
    refine tk (v := ?_) 11 ⟨some 19, _, _, _, _, _⟩ rfl ?_ ?_
    rotate_left 2
    · (intro w hSw; (try dsimp only at hSw); go_simp; (try with_reducible rfl))
    (try simp only [Act.put, tkA, tkB, tkC])
    refine tk (v := ?_) 12 ⟨some 20, _, _, _, _, _⟩ rfl ?_ ?_
    rotate_left 2
    · (intro w hSw; (try dsimp only at hSw); go_simp; (try with_reducible rfl))
    (try simp only [Act.put, tkA, tkB, tkC])
    refine tk (v := ?_) 13 ⟨some 21, _, _, _, _, _⟩ rfl ?_ ?_
    rotate_left 2
    · (intro w hSw; (try dsimp only at hSw); go_simp; (try with_reducible rfl))
    (try simp only [Act.put, tkA, tkB, tkC])
    refine tk (v := ?_) 14 ⟨some 22, _, _, _, _, _⟩ rfl ?_ ?_
    rotate_left 2
    · (intro w hSw; (try dsimp only at hSw); go_simp; (try with_reducible rfl))
    (try simp only [Act.put, tkA, tkB, tkC])
    refine tk (v := ?_) 15 ⟨some 23, _, _, _, _, _⟩ rfl ?_ ?_
    rotate_left 2
    · (intro w hSw; (try dsimp only at hSw); go_simp; (try with_reducible rfl))
    (try simp only [Act.put, tkA, tkB, tkC])
    refine wpAnyH_ready (rs := [16]) (by kernel_rfl) (by simp) ?_
    refine AllReadyH.cons (o := ⟨some 24, _, _, _, _, _⟩) rfl (fun K hK => ?_) AllReadyH.nil
    go_simp
    (go_at_call 123; (with_reducible refine (spec_RatMax [.bool b1.1.1, .slice b1a b1n b1c, .slice b1d b1m b1e] b1 [.bool c1.1.1, .slice c1a c1n c1c, .slice c1d c1m c1e] c1 _ (Ty.at_more Hb1.out mC) Wb1.out (Ty.at_more Hc1.out mC) Wc1.out Kb1.out Kc1.out).mono ?_); rintro e w3 ⟨u3, v3, rfl, hb3, g3⟩; obtain ⟨r3a, r3n, r3c, r3d, r3m, r3e, e9⟩ := sh_Rat g3; simp only [List.cons.injEq, and_true, true_and] at e9; obtain ⟨e8, e9⟩ := e9; subst e8; subst e9; have G3 := Lib.hid g3; clear g3; have HX3 := More.trans HX (show More _ w3 from mC); have HB3 := HB _ HX3; have hz3 := More.size HX3; (try simp at hz3); have hb3 := hb3)
    refine hK.out _ _ ?_ (fun hHeld => ?_)
    · first | exact tC | exact mC2
    clear hK K
    (try simp only [Act.put, tkA, tkB, tkC])
    refine wpAnyH_ready (rs := [17]) (by kernel_rfl) (by simp) ?_
    refine AllReadyH.cons (o := ⟨some 25, _, _, _, _, _⟩) rfl (fun K hK => ?_) AllReadyH.nil
    go_simp
    (go_at_call 96; (with_reducible refine (spec_RatCmpX a1 a1.1.1 (.slice a1a a1n a1c) (.slice a1d a1m a1e) (maxQ b1 c1) (maxQ b1 c1).1.1 (.slice r3a r3n r3c) (.slice r3d r3m r3e) _ (Ty.at_more Ha1.out mC) Wa1.out (Ty.at_more G3.out mC) WMmaxb1c1.out).mono ?_); rintro e w4 ⟨rfl, hb4⟩; rw [D.out]; have HX4 := More.trans HX (show More _ w4 from mC); have HB4 := HB _ HX4; have hz4 := More.size HX4; (try simp at hz4); have hb4 := hb4)
    refine hK.out _ _ ?_ (fun hHeld => ?_)
    · first | exact tC | exact mC2
    clear hK K
    (try simp only [Act.put, tkA, tkB, tkC])
    refine tk (v := ?_) 18 ⟨some 26, _, _, _, _, _⟩ rfl ?_ ?_
    rotate_left 2
    · (intro w hSw; (try dsimp only at hSw); go_simp; (try with_reducible rfl))
    (try simp only [Act.put, tkA, tkB, tkC])
    refine tk (v := ?_) 19 ⟨some 27, _, _, _, _, _⟩ rfl ?_ ?_
    rotate_left 2
    · (intro w hSw; (try dsimp only at hSw); go_simp; (try with_reducible rfl))
    (try simp only [Act.put, tkA, tkB, tkC])
    refine tk (v := ?_) 20 ⟨some 7, _, _, _, _, _⟩ rfl ?_ ?_
    rotate_left 2
    · (intro w hSw; (try dsimp only at hSw); go_simp; (try with_reducible rfl))
    (try simp only [Act.put, tkA, tkB, tkC])
    refine wpAnyH_done (by kernel_rfl) ?_ _
    go_wp2_with fail
    refine wp_region_held_drew (S := (fun w' => Turns [] (((w.alloc (.cells #[.bool a1.1.1, .slice a1a a1n a1c, .slice a1d a1m a1e, .bool a2.1.1, .slice a2a a2n a2c, .slice a2d a2m a2e] 89)).alloc (.cells #[.bool b1.1.1, .slice b1a b1n b1c, .slice b1d b1m b1e, .bool b2.1.1, .slice b2a b2n b2c, .slice b2d b2m b2e] 89)).alloc (.cells #[.bool c1.1.1, .slice c1a c1n c1c, .slice c1d c1m c1e, .bool c2.1.1, .slice c2a c2n c2c, .slice c2d c2m c2e] 89)) w')) (by kernel_rfl) ?_ (fun hHeld => ?_)
    · first | exact tC | exact mC2
    refine tk (v := ?_) 0 ⟨some 28, _, _, _, _, _⟩ rfl ?_ ?_
    rotate_left 2
    · (intro w hSw; (try dsimp only at hSw); go_simp; (try with_reducible rfl))
    (try simp only [Act.put, tkA, tkB, tkC])
    refine tk (v := ?_) 1 ⟨some 29, _, _, _, _, _⟩ rfl ?_ ?_
    rotate_left 2
    · (intro w hSw; (try dsimp only at hSw); go_simp; (try with_reducible rfl))
    (try simp only [Act.put, tkA, tkB, tkC])
    refine tk0 2 ⟨some 30, _, _, _, _, _⟩ rfl ?_
    (try simp only [Act.put, tkA, tkB, tkC])
    refine tk0 3 ⟨some 31, _, _, _, _, _⟩ rfl ?_
    (try simp only [Act.put, tkA, tkB, tkC])
    refine tk0 4 ⟨some 32, _, _, _, _, _⟩ rfl ?_
    (try simp only [Act.put, tkA, tkB, tkC])
    refine tk0 5 ⟨some 33, _, _, _, _, _⟩ rfl ?_
    (try simp only [Act.put, tkA, tkB, tkC])
    refine tk0 6 ⟨some 34, _, _, _, _, _⟩ rfl ?_
    (try simp only [Act.put, tkA, tkB, tkC])
    refine tk0 7 ⟨some 35, _, _, _, _, _⟩ rfl ?_
    (try simp only [Act.put, tkA, tkB, tkC])
    refine tk0 8 ⟨some 36, _, _, _, _, _⟩ rfl ?_
    (try simp only [Act.put, tkA, tkB, tkC])
    refine tk0 9 ⟨some 37, _, _, _, _, _⟩ rfl ?_
    (try simp only [Act.put, tkA, tkB, tkC])
    refine tk0 10 ⟨some 38, _, _, _, _, _⟩ rfl ?_
    (try simp only [Act.put, tkA, tkB, tkC])
    refine tk (v := ?_) 11 ⟨some 39, _, _, _, _, _⟩ rfl ?_ ?_
    rotate_left 2
    · (intro w hSw; (try dsimp only at hSw); go_simp; (try with_reducible rfl))
    (try simp only [Act.put, tkA, tkB, tkC])
    refine tk (v := ?_) 12 ⟨some 40, _, _, _, _, _⟩ rfl ?_ ?_
    rotate_left 2
    · (intro w hSw; (try dsimp only at hSw); go_simp; (try with_reducible rfl))
    (try simp only [Act.put, tkA, tkB, tkC])
    refine tk0 13 ⟨some 41, _, _, _, _, _⟩ rfl ?_
    (try simp only [Act.put, tkA, tkB, tkC])
    refine tk0 14 ⟨some 42, _, _, _, _, _⟩ rfl ?_
    (try simp only [Act.put, tkA, tkB, tkC])
    refine tk0 15 ⟨some 43, _, _, _, _, _⟩ rfl ?_
    (try simp only [Act.put, tkA, tkB, tkC])
    refine tk0 16 ⟨some 44, _, _, _, _, _⟩ rfl ?_
    (try simp only [Act.put, tkA, tkB, tkC])
    refine tk0 17 ⟨some 45, _, _, _, _, _⟩ rfl ?_
    (try simp only [Act.put, tkA, tkB, tkC])
    refine tk0 18 ⟨some 46, _, _, _, _, _⟩ rfl ?_
    (try simp only [Act.put, tkA, tkB, tkC])
    refine tk0 19 ⟨some 47, _, _, _, _, _⟩ rfl ?_
    (try simp only [Act.put, tkA, tkB, tkC])
    refine tk0 20 ⟨some 48, _, _, _, _, _⟩ rfl ?_
    (try simp only [Act.put, tkA, tkB, tkC])
    refine tk0 21 ⟨some 49, _, _, _, _, _⟩ rfl ?_
    (try simp only [Act.put, tkA, tkB, tkC])
    refine tk (v := ?_) 22 ⟨some 50, _, _, _, _, _⟩ rfl ?_ ?_
    rotate_left 2
    · (intro w hSw; (try dsimp only at hSw); go_simp; (try with_reducible rfl))
    (try simp only [Act.put, tkA, tkB, tkC])
    refine tk (v := ?_) 23 ⟨some 6, _, _, _, _, _⟩ rfl ?_ ?_
    rotate_left 2
    · (intro w hSw; (try dsimp only at hSw); go_simp; (try with_reducible rfl))
    (try simp only [Act.put, tkA, tkB, tkC])
    refine wpAnyH_done (by kernel_rfl) ?_ _
    go_wp2_with fail
    go_ret
    exact ⟨ret_bool (by first | (simp [spanPB, betB, C.out, D.out, E.out, F.out]; done) | (simp [spanPB, betB, C.out, D.out, E.out, F.out] <;> omega)), mC⟩
  have hDd : decide (d0 ≤ 0) = true := decide_eq_true (by omega)
  rcases (show 0 ≤ e0 ∨ e0 < 0 by omega) with hE | hE
  rotate_left
  · have hEd : decide (0 ≤ e0) = false := decide_eq_false (by omega)
    have HX := More.refl (((w.alloc (.cells #[.bool a1.1.1, .slice a1a a1n a1c, .slice a1d a1m a1e, .bool a2.1.1, .slice a2a a2n a2c, .slice a2d a2m a2e] 89)).alloc (.cells #[.bool b1.1.1, .slice b1a b1n b1c, .slice b1d b1m b1e, .bool b2.1.1, .slice b2a b2n b2c, .slice b2d b2m b2e] 89)).alloc (.cells #[.bool c1.1.1, .slice c1a c1n c1c, .slice c1d c1m c1e, .bool c2.1.1, .slice c2a c2n c2c, .slice c2d c2m c2e] 89))
    have HB := fun (w' : World) (h : More (((w.alloc (.cells #[.bool a1.1.1, .slice a1a a1n a1c, .slice a1d a1m a1e, .bool a2.1.1, .slice a2a a2n a2c, .slice a2d a2m a2e] 89)).alloc (.cells #[.bool b1.1.1, .slice b1a b1n b1c, .slice b1d b1m b1e, .bool b2.1.1, .slice b2a b2n b2c, .slice b2d b2m b2e] 89)).alloc (.cells #[.bool c1.1.1, .slice c1a c1n c1c, .slice c1d c1m c1e, .bool c2.1.1, .slice c2a c2n c2c, .slice c2d c2m c2e] 89)) w') => And.intro (bx6 (w.heap.size) (by simp) (More.un (More.un h))) (And.intro (bx6 (w.heap.size + 1) (by simp) (More.un h)) (bx6 (w.heap.size + 1 + 1) (by simp) h))
    have HC := fun (w' : World) (h : Turns [] _ w') => HB w' (Turns.more h)
    go_enter Try.func129, Try.ntmps129
    go_wp2_with fail
    refine wp_region_held_drew (S := (fun w' => Turns [] (((w.alloc (.cells #[.bool a1.1.1, .slice a1a a1n a1c, .slice a1d a1m a1e, .bool a2.1.1, .slice a2a a2n a2c, .slice a2d a2m a2e] 89)).alloc (.cells #[.bool b1.1.1, .slice b1a b1n b1c, .slice b1d b1m b1e, .bool b2.1.1, .slice b2a b2n b2c, .slice b2d b2m b2e] 89)).alloc (.cells #[.bool c1.1.1, .slice c1a c1n c1c, .slice c1d c1m c1e, .bool c2.1.1, .slice c2a c2n c2c, .slice c2d c2m c2e] 89)) w')) (by kernel_rfl) ?_ (fun hHeld => ?_)
    · first | exact tC | exact mC2
    refine tk (v := ?_) 0 ⟨some 8, _, _, _, _, _⟩ rfl ?_ ?_
    rotate_left 2
    · (intro w hSw; (try dsimp only at hSw); go_simp; (try with_reducible rfl))
    (try simp only [Act.put, tkA, tkB, tkC])
    refine tk (v := ?_) 1 ⟨some 9, _, _, _, _, _⟩ rfl ?_ ?_
    rotate_left 2
    · (intro w hSw; (try dsimp only at hSw); go_simp; (try with_reducible rfl))
    (try simp only [Act.put, tkA, tkB, tkC])
    refine tk (v := ?_) 2 ⟨some 10, _, _, _, _, _⟩ rfl ?_ ?_
    rotate_left 2
    · (intro w hSw; (try dsimp only at hSw); go_simp; (try with_reducible rfl))
    (try simp only [Act.put, tkA, tkB, tkC])
    refine tk (v := ?_) 3 ⟨some 11, _, _, _, _, _⟩ rfl ?_ ?_
    rotate_left 2
    · (intro w hSw; (try dsimp only at hSw); go_simp; (try with_reducible rfl))
    (try simp only [Act.put, tkA, tkB, tkC])
    refine tk (v := ?_) 4 ⟨some 12, _, _, _, _, _⟩ rfl ?_ ?_
    rotate_left 2
    · (intro w hSw; (try dsimp only at hSw); go_simp; (try with_reducible rfl))
    (try simp only [Act.put, tkA, tkB, tkC])
    refine tk (v := ?_) 5 ⟨some 13, _, _, _, _, _⟩ rfl ?_ ?_
    rotate_left 2
    · (intro w hSw; (try dsimp only at hSw); go_simp; (try with_reducible rfl))
    (try simp only [Act.put, tkA, tkB, tkC])
    refine wpAnyH_ready (rs := [6]) (by kernel_rfl) (by simp) ?_
    refine AllReadyH.cons (o := ⟨some 14, _, _, _, _, _⟩) rfl (fun K hK => ?_) AllReadyH.nil
    go_simp
    (go_at_call 124; (with_reducible refine (spec_RatMin [.bool b1.1.1, .slice b1a b1n b1c, .slice b1d b1m b1e] b1 [.bool c1.1.1, .slice c1a c1n c1c, .slice c1d c1m c1e] c1 _ (Ty.at_more Hb1.out mC) Wb1.out (Ty.at_more Hc1.out mC) Wc1.out Kb1.out Kc1.out).mono ?_); rintro e w1 ⟨u1, v1, rfl, hb1, g1⟩; obtain ⟨r1a, r1n, r1c, r1d, r1m, r1e, e9⟩ := sh_Rat g1; simp only [List.cons.injEq, and_true, true_and] at e9; obtain ⟨e8, e9⟩ := e9; subst e8; subst e9; have G1 := Lib.hid g1; clear g1; have HX1 := More.trans HX (show More _ w1 from mC); have HB1 := HB _ HX1; have hz1 := More.size HX1; (try simp at hz1); have hb1 := hb1)
    refine hK.out _ _ ?_ (fun hHeld => ?_)
    · first | exact tC | exact mC2
    clear hK K
    (try simp only [Act.put, tkA, tkB, tkC])
    refine wpAnyH_ready (rs := [7]) (by kernel_rfl) (by simp) ?_
    refine AllReadyH.cons (o := ⟨some 15, _, _, _, _, _⟩) rfl (fun K hK => ?_) AllReadyH.nil
    go_simp
    (go_at_call 96; (with_reducible refine (spec_RatCmpX a1 a1.1.1 (.slice a1a a1n a1c) (.slice a1d a1m a1e) (minQ b1 c1) (minQ b1 c1).1.1 (.slice r1a r1n r1c) (.slice r1d r1m r1e) _ (Ty.at_more Ha1.out mC) Wa1.out (Ty.at_more G1.out mC) WMminb1c1.out).mono ?_); rintro e w2 ⟨rfl, hb2⟩; rw [C.out]; have HX2 := More.trans HX (show More _ w2 from mC); have HB2 := HB _ HX2; have hz2 := More.size HX2; (try simp at hz2); have hb2 := hb2)
    refine hK.out _ _ ?_ (fun hHeld => ?_)
    · first | exact tC | exact mC2
    clear hK K
    (try simp only [Act.put, tkA, tkB, tkC])
    refine tk (v := ?_) 8 ⟨some 16, _, _, _, _, _⟩ rfl ?_ ?_
    rotate_left 2
    · (intro w hSw; (try dsimp only at hSw); go_simp; (try with_reducible rfl))
    (try simp only [Act.put, tkA, tkB, tkC])
    refine tk (v := ?_) 9 ⟨some 17, _, _, _, _, _⟩ rfl ?_ ?_
    rotate_left 2
    · (intro w hSw; (try dsimp only at hSw); go_simp; (try with_reducible rfl))
    (try simp only [Act.put, tkA, tkB, tkC])
    refine tk (v := ?_) 10 ⟨some 18, _, _, _, _, _⟩ rfl ?_ ?_
    rotate_left 2
    · (intro w hSw; (try dsimp only at hSw); go_simp; (try with_reducible rfl))
    (try simp only [Act.put, tkA, tkB, tkC])
    refine tk (v := ?_) 11 ⟨some 19, _, _, _, _, _⟩ rfl ?_ ?_
    rotate_left 2
    · (intro w hSw; (try dsimp only at hSw); go_simp; (try with_reducible rfl))
    (try simp only [Act.put, tkA, tkB, tkC])
    refine tk (v := ?_) 12 ⟨some 20, _, _, _, _, _⟩ rfl ?_ ?_
    rotate_left 2
    · (intro w hSw; (try dsimp only at hSw); go_simp; (try with_reducible rfl))
    (try simp only [Act.put, tkA, tkB, tkC])
    refine tk (v := ?_) 13 ⟨some 21, _, _, _, _, _⟩ rfl ?_ ?_
    rotate_left 2
    · (intro w hSw; (try dsimp only at hSw); go_simp; (try with_reducible rfl))
    (try simp only [Act.put, tkA, tkB, tkC])
    refine tk (v := ?_) 14 ⟨some 22, _, _, _, _, _⟩ rfl ?_ ?_
    rotate_left 2
    · (intro w hSw; (try dsimp only at hSw); go_simp; (try with_reducible rfl))
    (try simp only [Act.put, tkA, tkB, tkC])
    refine tk (v := ?_) 15 ⟨some 23, _, _, _, _, _⟩ rfl ?_ ?_
    rotate_left 2
    · (intro w hSw; (try dsimp only at hSw); go_simp; (try with_reducible rfl))
    (try simp only [Act.put, tkA, tkB, tkC])
    refine wpAnyH_ready (rs := [16]) (by kernel_rfl) (by simp) ?_
    refine AllReadyH.cons (o := ⟨some 24, _, _, _, _, _⟩) rfl (fun K hK => ?_) AllReadyH.nil
    go_simp
    (go_at_call 123; (with_reducible refine (spec_RatMax [.bool b1.1.1, .slice b1a b1n b1c, .slice b1d b1m b1e] b1 [.bool c1.1.1, .slice c1a c1n c1c, .slice c1d c1m c1e] c1 _ (Ty.at_more Hb1.out mC) Wb1.out (Ty.at_more Hc1.out mC) Wc1.out Kb1.out Kc1.out).mono ?_); rintro e w3 ⟨u3, v3, rfl, hb3, g3⟩; obtain ⟨r3a, r3n, r3c, r3d, r3m, r3e, e9⟩ := sh_Rat g3; simp only [List.cons.injEq, and_true, true_and] at e9; obtain ⟨e8, e9⟩ := e9; subst e8; subst e9; have G3 := Lib.hid g3; clear g3; have HX3 := More.trans HX (show More _ w3 from mC); have HB3 := HB _ HX3; have hz3 := More.size HX3; (try simp at hz3); have hb3 := hb3)
    refine hK.out _ _ ?_ (fun hHeld => ?_)
    · first | exact tC | exact mC2
    clear hK K
    (try simp only [Act.put, tkA, tkB, tkC])
    refine wpAnyH_ready (rs := [17]) (by kernel_rfl) (by simp) ?_
    refine AllReadyH.cons (o := ⟨some 25, _, _, _, _, _⟩) rfl (fun K hK => ?_) AllReadyH.nil
    go_simp
    (go_at_call 96; (with_reducible refine (spec_RatCmpX a1 a1.1.1 (.slice a1a a1n a1c) (.slice a1d a1m a1e) (maxQ b1 c1) (maxQ b1 c1).1.1 (.slice r3a r3n r3c) (.slice r3d r3m r3e) _ (Ty.at_more Ha1.out mC) Wa1.out (Ty.at_more G3.out mC) WMmaxb1c1.out).mono ?_); rintro e w4 ⟨rfl, hb4⟩; rw [D.out]; have HX4 := More.trans HX (show More _ w4 from mC); have HB4 := HB _ HX4; have hz4 := More.size HX4; (try simp at hz4); have hb4 := hb4)
    refine hK.out _ _ ?_ (fun hHeld => ?_)
    · first | exact tC | exact mC2
    clear hK K
    (try simp only [Act.put, tkA, tkB, tkC])
    refine tk (v := ?_) 18 ⟨some 26, _, _, _, _, _⟩ rfl ?_ ?_
    rotate_left 2
    · (intro w hSw; (try dsimp only at hSw); go_simp; (try with_reducible rfl))
    (try simp only [Act.put, tkA, tkB, tkC])
    refine tk (v := ?_) 19 ⟨some 27, _, _, _, _, _⟩ rfl ?_ ?_
    rotate_left 2
    · (intro w hSw; (try dsimp only at hSw); go_simp; (try with_reducible rfl))
    (try simp only [Act.put, tkA, tkB, tkC])
    refine tk (v := ?_) 20 ⟨some 7, _, _, _, _, _⟩ rfl ?_ ?_
    rotate_left 2
    · (intro w hSw; (try dsimp only at hSw); go_simp; (try with_reducible rfl))
    (try simp only [Act.put, tkA, tkB, tkC])
    refine wpAnyH_done (by kernel_rfl) ?_ _
    go_wp2_with fail
    refine wp_region_held_drew (S := (fun w' => Turns [] (((w.alloc (.cells #[.bool a1.1.1, .slice a1a a1n a1c, .slice a1d a1m a1e, .bool a2.1.1, .slice a2a a2n a2c, .slice a2d a2m a2e] 89)).alloc (.cells #[.bool b1.1.1, .slice b1a b1n b1c, .slice b1d b1m b1e, .bool b2.1.1, .slice b2a b2n b2c, .slice b2d b2m b2e] 89)).alloc (.cells #[.bool c1.1.1, .slice c1a c1n c1c, .slice c1d c1m c1e, .bool c2.1.1, .slice c2a c2n c2c, .slice c2d c2m c2e] 89)) w')) (by kernel_rfl) ?_ (fun hHeld => ?_)
    · first | exact tC | exact mC2
    refine tk (v := ?_) 0 ⟨some 28, _, _, _, _, _⟩ rfl ?_ ?_
    rotate_left 2
    · (intro w hSw; (try dsimp only at hSw); go_simp; (try with_reducible rfl))
    (try simp only [Act.put, tkA, tkB, tkC])
    refine tk (v := ?_) 1 ⟨some 29, _, _, _, _, _⟩ rfl ?_ ?_
    rotate_left 2
    · (intro w hSw; (try dsimp only at hSw); go_simp; (try with_reducible rfl))
    (try simp only [Act.put, tkA, tkB, tkC])
    refine tk (v := ?_) 2 ⟨some 30, _, _, _, _, _⟩ rfl ?_ ?_
    rotate_left 2
    · (intro w hSw; (try dsimp only at hSw); go_simp; (try with_reducible rfl))
    (try simp only [Act.put, tkA, tkB, tkC])
    refine tk (v := ?_) 3 ⟨some 31, _, _, _, _, _⟩ rfl ?_ ?_
    rotate_left 2
    · (intro w hSw; (try dsimp only at hSw); go_simp; (try with_reducible rfl))
    (try simp only [Act.put, tkA, tkB, tkC])
    refine tk (v := ?_) 4 ⟨some 32, _, _, _, _, _⟩ rfl ?_ ?_
    rotate_left 2
    · (intro w hSw; (try dsimp only at hSw); go_simp; (try with_reducible rfl))
    (try simp only [Act.put, tkA, tkB, tkC])
    refine tk (v := ?_) 5 ⟨some 33, _, _, _, _, _⟩ rfl ?_ ?_
    rotate_left 2
    · (intro w hSw; (try dsimp only at hSw); go_simp; (try with_reducible rfl))
    (try simp only [Act.put, tkA, tkB, tkC])
    refine tk (v := ?_) 6 ⟨some 34, _, _, _, _, _⟩ rfl ?_ ?_
    rotate_left 2
    · (intro w hSw; (try dsimp only at hSw); go_simp; (try with_reducible rfl))
    (try simp only [Act.put, tkA, tkB, tkC])
    refine tk (v := ?_) 7 ⟨some 35, _, _, _, _, _⟩ rfl ?_ ?_
    rotate_left 2
    · (intro w hSw; (try dsimp only at hSw); go_simp; (try with_reducible rfl))
    (try simp only [Act.put, tkA, tkB, tkC])
    refine wpAnyH_ready (rs := [8]) (by kernel_rfl) (by simp) ?_
    refine AllReadyH.cons (o := ⟨some 36, _, _, _, _, _⟩) rfl (fun K hK => ?_) AllReadyH.nil
    go_simp
    (go_at_call 124; (with_reducible refine (spec_RatMin [.bool b2.1.1, .slice b2a b2n b2c, .slice b2d b2m b2e] b2 [.bool c2.1.1, .slice c2a c2n c2c, .slice c2d c2m c2e] c2 _ (Ty.at_more Hb2.out mC) Wb2.out (Ty.at_more Hc2.out mC) Wc2.out Kb2.out Kc2.out).mono ?_); rintro e w5 ⟨u5, v5, rfl, hb5, g5⟩; obtain ⟨r5a, r5n, r5c, r5d, r5m, r5e, e9⟩ := sh_Rat g5; simp only [List.cons.injEq, and_true, true_and] at e9; obtain ⟨e8, e9⟩ := e9; subst e8; subst e9; have G5 := Lib.hid g5; clear g5; have HX5 := More.trans HX (show More _ w5 from mC); have HB5 := HB _ HX5; have hz5 := More.size HX5; (try simp at hz5); have hb5 := hb5)
    refine hK.out _ _ ?_ (fun hHeld => ?_)
    · first | exact tC | exact mC2
    clear hK K
    (try simp only [Act.put, tkA, tkB, tkC])
    refine wpAnyH_ready (rs := [9]) (by kernel_rfl) (by simp) ?_
    refine AllReadyH.cons (o := ⟨some 37, _, _, _, _, _⟩) rfl (fun K hK => ?_) AllReadyH.nil
    go_simp
    (go_at_call 96; (with_reducible refine (spec_RatCmpX a2 a2.1.1 (.slice a2a a2n a2c) (.slice a2d a2m a2e) (minQ b2 c2) (minQ b2 c2).1.1 (.slice r5a r5n r5c) (.slice r5d r5m r5e) _ (Ty.at_more Ha2.out mC) Wa2.out (Ty.at_more G5.out mC) WMminb2c2.out).mono ?_); rintro e w6 ⟨rfl, hb6⟩; rw [E.out]; have HX6 := More.trans HX (show More _ w6 from mC); have HB6 := HB _ HX6; have hz6 := More.size HX6; (try simp at hz6); have hb6 := hb6)
    refine hK.out _ _ ?_ (fun hHeld => ?_)
    · first | exact tC | exact mC2
    clear hK K
    (try simp only [Act.put, tkA, tkB, tkC])
    refine tk (v := ?_) 10 ⟨some 38, _, _, _, _, _⟩ rfl ?_ ?_
    rotate_left 2
    · (intro w hSw; (try dsimp only at hSw); go_simp; (try with_reducible rfl))
    (try simp only [Act.put, tkA, tkB, tkC])
    refine tk (v := ?_) 11 ⟨some 39, _, _, _, _, _⟩ rfl ?_ ?_
    rotate_left 2
    · (intro w hSw; (try dsimp only at hSw); go_simp; (try with_reducible rfl))
    (try simp only [Act.put, tkA, tkB, tkC])
    refine tk (v := ?_) 12 ⟨some 40, _, _, _, _, _⟩ rfl ?_ ?_
    rotate_left 2
    · (intro w hSw; (try dsimp only at hSw); go_simp; (try with_reducible rfl))
    (try simp only [Act.put, tkA, tkB, tkC])
    refine tk0 13 ⟨some 41, _, _, _, _, _⟩ rfl ?_
    (try simp only [Act.put, tkA, tkB, tkC])
    refine tk0 14 ⟨some 42, _, _, _, _, _⟩ rfl ?_
    (try simp only [Act.put, tkA, tkB, tkC])
    refine tk0 15 ⟨some 43, _, _, _, _, _⟩ rfl ?_
    (try simp only [Act.put, tkA, tkB, tkC])
    refine tk0 16 ⟨some 44, _, _, _, _, _⟩ rfl ?_
    (try simp only [Act.put, tkA, tkB, tkC])
    refine tk0 17 ⟨some 45, _, _, _, _, _⟩ rfl ?_
    (try simp only [Act.put, tkA, tkB, tkC])
    refine tk0 18 ⟨some 46, _, _, _, _, _⟩ rfl ?_
    (try simp only [Act.put, tkA, tkB, tkC])
    refine tk0 19 ⟨some 47, _, _, _, _, _⟩ rfl ?_
    (try simp only [Act.put, tkA, tkB, tkC])
    refine tk0 20 ⟨some 48, _, _, _, _, _⟩ rfl ?_
    (try simp only [Act.put, tkA, tkB, tkC])
    refine tk0 21 ⟨some 49, _, _, _, _, _⟩ rfl ?_
    (try simp only [Act.put, tkA, tkB, tkC])
    refine tk (v := ?_) 22 ⟨some 50, _, _, _, _, _⟩ rfl ?_ ?_
    rotate_left 2
    · (intro w hSw; (try dsimp only at hSw); go_simp; (try with_reducible rfl))
    (try simp only [Act.put, tkA, tkB, tkC])
    refine tk (v := ?_) 23 ⟨some 6, _, _, _, _, _⟩ rfl ?_ ?_
    rotate_left 2
    · (intro w hSw; (try dsimp only at hSw); go_simp; (try with_reducible rfl))
    (try simp only [Act.put, tkA, tkB, tkC])
    refine wpAnyH_done (by kernel_rfl) ?_ _
    go_wp2_with fail
    go_ret
    exact ⟨ret_bool (by first | (simp [spanPB, betB, C.out, D.out, E.out, F.out]; done) | (simp [spanPB, betB, C.out, D.out, E.out, F.out] <;> omega)), mC⟩
  have hEd : decide (0 ≤ e0) = true := decide_eq_true (by omega)
  rcases (show f0 ≤ 0 ∨ 0 < f0 by omega) with hF | hF
  rotate_left
  · have hFd : decide (f0 ≤ 0) = false := decide_eq_false (by omega)
    have HX := More.refl (((w.alloc (.cells #[.bool a1.1.1, .slice a1a a1n a1c, .slice a1d a1m a1e, .bool a2.1.1, .slice a2a a2n a2c, .slice a2d a2m a2e] 89)).alloc (.cells #[.bool b1.1.1, .slice b1a b1n b1c, .slice b1d b1m b1e, .bool b2.1.1, .slice b2a b2n b2c, .slice b2d b2m b2e] 89)).alloc (.cells #[.bool c1.1.1, .slice c1a c1n c1c, .slice c1d c1m c1e, .bool c2.1.1, .slice c2a c2n c2c, .slice c2d c2m c2e] 89))
    have HB := fun (w' : World) (h : More (((w.alloc (.cells #[.bool a1.1.1, .slice a1a a1n a1c, .slice a1d a1m a1e, .bool a2.1.1, .slice a2a a2n a2c, .slice a2d a2m a2e] 89)).alloc (.cells #[.bool b1.1.1, .slice b1a b1n b1c, .slice b1d b1m b1e, .bool b2.1.1, .slice b2a b2n b2c, .slice b2d b2m b2e] 89)).alloc (.cells #[.bool c1.1.1, .slice c1a c1n c1c, .slice c1d c1m c1e, .bool c2.1.1, .slice c2a c2n c2c, .slice c2d c2m c2e] 89)) w') => And.intro (bx6 (w.heap.size) (by simp) (More.un (More.un h))) (And.intro (bx6 (w.heap.size + 1) (by simp) (More.un h)) (bx6 (w.heap.size + 1 + 1) (by simp) h))
    have HC := fun (w' : World) (h : Turns [] _ w') => HB w' (Turns.more h)
    go_enter Try.func129, Try.ntmps129
    go_wp2_with fail
    refine wp_region_held_drew (S := (fun w' => Turns [] (((w.alloc (.cells #[.bool a1.1.1, .slice a1a a1n a1c, .slice a1d a1m a1e, .bool a2.1.1, .slice a2a a2n a2c, .slice a2d a2m a2e] 89)).alloc (.cells #[.bool b1.1.1, .slice b1a b1n b1c, .slice b1d b1m b1e, .bool b2.1.1, .slice b2a b2n b2c, .slice b2d b2m b2e] 89)).alloc (.cells #[.bool c1.1.1, .slice c1a c1n c1c, .slice c1d c1m c1e, .bool c2.1.1, .slice c2a c2n c2c, .slice c2d c2m c2e] 89)) w')) (by kernel_rfl) ?_ (fun hHeld => ?_)
    · first | exact tC | exact mC2
    refine tk (v := ?_) 0 ⟨some 8, _, _, _, _, _⟩ rfl ?_ ?_
    rotate_left 2
    · (intro w hSw; (try dsimp only at hSw); go_simp; (try with_reducible rfl))
    (try simp only [Act.put, tkA, tkB, tkC])
    refine tk (v := ?_) 1 ⟨some 9, _, _, _, _, _⟩ rfl ?_ ?_
    rotate_left 2
    · (intro w hSw; (try dsimp only at hSw); go_simp; (try with_reducible rfl))
    (try simp only [Act.put, tkA, tkB, tkC])
    refine tk (v := ?_) 2 ⟨some 10, _, _, _, _, _⟩ rfl ?_ ?_
    rotate_left 2
    · (intro w hSw; (try dsimp only at hSw); go_simp; (try with_reducible rfl))
    (try simp only [Act.put, tkA, tkB, tkC])
    refine tk (v := ?_) 3 ⟨some 11, _, _, _, _, _⟩ rfl ?_ ?_
    rotate_left 2
    · (intro w hSw; (try dsimp only at hSw); go_simp; (try with_reducible rfl))
    (try simp only [Act.put, tkA, tkB, tkC])
    refine tk (v := ?_) 4 ⟨some 12, _, _, _, _, _⟩ rfl ?_ ?_
    rotate_left 2
    · (intro w hSw; (try dsimp only at hSw); go_simp; (try with_reducible rfl))
    (try simp only [Act.put, tkA, tkB, tkC])
    refine tk (v := ?_) 5 ⟨some 13, _, _, _, _, _⟩ rfl ?_ ?_
    rotate_left 2
    · (intro w hSw; (try dsimp only at hSw); go_simp; (try with_reducible rfl))
    (try simp only [Act.put, tkA, tkB, tkC])
    refine wpAnyH_ready (rs := [6]) (by kernel_rfl) (by simp) ?_
    refine AllReadyH.cons (o := ⟨some 14, _, _, _, _, _⟩) rfl (fun K hK => ?_) AllReadyH.nil
    go_simp
    (go_at_call 124; (with_reducible refine (spec_RatMin [.bool b1.1.1, .slice b1a b1n b1c, .slice b1d b1m b1e] b1 [.bool c1.1.1, .slice c1a c1n c1c, .slice c1d c1m c1e] c1 _ (Ty.at_more Hb1.out mC) Wb1.out (Ty.at_more Hc1.out mC) Wc1.out Kb1.out Kc1.out).mono ?_); rintro e w1 ⟨u1, v1, rfl, hb1, g1⟩; obtain ⟨r1a, r1n, r1c, r1d, r1m, r1e, e9⟩ := sh_Rat g1; simp only [List.cons.injEq, and_true, true_and] at e9; obtain ⟨e8, e9⟩ := e9; subst e8; subst e9; have G1 := Lib.hid g1; clear g1; have HX1 := More.trans HX (show More _ w1 from mC); have HB1 := HB _ HX1; have hz1 := More.size HX1; (try simp at hz1); have hb1 := hb1)
    refine hK.out _ _ ?_ (fun hHeld => ?_)
    · first | exact tC | exact mC2
    clear hK K
    (try simp only [Act.put, tkA, tkB, tkC])
    refine wpAnyH_ready (rs := [7]) (by kernel_rfl) (by simp) ?_
    refine AllReadyH.cons (o := ⟨some 15, _, _, _, _, _⟩) rfl (fun K hK => ?_) AllReadyH.nil
    go_simp
    (go_at_call 96; (with_reducible refine (spec_RatCmpX a1 a1.1.1 (.slice a1a a1n a1c) (.slice a1d a1m a1e) (minQ b1 c1) (minQ b1 c1).1.1 (.slice r1a r1n r1c) (.slice r1d r1m r1e) _ (Ty.at_more Ha1.out mC) Wa1.out (Ty.at_more G1.out mC) WMminb1c1.out).mono ?_); rintro e w2 ⟨rfl, hb2⟩; rw [C.out]; have HX2 := More.trans HX (show More _ w2 from mC); have HB2 := HB _ HX2; have hz2 := More.size HX2; (try simp at hz2); have hb2 := hb2)
    refine hK.out _ _ ?_ (fun hHeld => ?_)
    · first | exact tC | exact mC2
    clear hK K
    (try simp only [Act.put, tkA, tkB, tkC])
    refine tk (v := ?_) 8 ⟨some 16, _, _, _, _, _⟩ rfl ?_ ?_
    rotate_left 2
    · (intro w hSw; (try dsimp only at hSw); go_simp; (try with_reducible rfl))
    (try simp only [Act.put, tkA, tkB, tkC])
    refine tk (v := ?_) 9 ⟨some 17, _, _, _, _, _⟩ rfl ?_ ?_
    rotate_left 2
    · (intro w hSw; (try dsimp only at hSw); go_simp; (try with_reducible rfl))
    (try simp only [Act.put, tkA, tkB, tkC])
    refine tk (v := ?_) 10 ⟨some 18, _, _, _, _, _⟩ rfl ?_ ?_
    rotate_left 2
    · (intro w hSw; (try dsimp only at hSw); go_simp; (try with_reducible rfl))
    (try simp only [Act.put, tkA, tkB, tkC])
    refine tk (v := ?_) 11 ⟨some 19, _, _, _, _, _⟩ rfl ?_ ?_
    rotate_left 2
    · (intro w hSw; (try dsimp only at hSw); go_simp; (try with_reducible rfl))
    (try simp only [Act.put, tkA, tkB, tkC])
    refine tk (v := ?_) 12 ⟨some 20, _, _, _, _, _⟩ rfl ?_ ?_
    rotate_left 2
    · (intro w hSw; (try dsimp only at hSw); go_simp; (try with_reducible rfl))
    (try simp only [Act.put, tkA, tkB, tkC])
    refine tk (v := ?_) 13 ⟨some 21, _, _, _, _, _⟩ rfl ?_ ?_
    rotate_left 2
    · (intro w hSw; (try dsimp only at hSw); go_simp; (try with_reducible rfl))
    (try simp only [Act.put, tkA, tkB, tkC])
    refine tk (v := ?_) 14 ⟨some 22, _, _, _, _, _⟩ rfl ?_ ?_
    rotate_left 2
    · (intro w hSw; (try dsimp only at hSw); go_simp; (try with_reducible rfl))
    (try simp only [Act.put, tkA, tkB, tkC])
    refine tk (v := ?_) 15 ⟨some 23, _, _, _, _, _⟩ rfl ?_ ?_
    rotate_left 2
    · (intro w hSw; (try dsimp only at hSw); go_simp; (try with_reducible rfl))
    (try simp only [Act.put, tkA, tkB, tkC])
    refine wpAnyH_ready (rs := [16]) (by kernel_rfl) (by simp) ?_
    refine AllReadyH.cons (o := ⟨some 24, _, _, _, _, _⟩) rfl (fun K hK => ?_) AllReadyH.nil
    go_simp
    (go_at_call 123; (with_reducible refine (spec_RatMax [.bool b1.1.1, .slice b1a b1n b1c, .slice b1d b1m b1e] b1 [.bool c1.1.1, .slice c1a c1n c1c, .slice c1d c1m c1e] c1 _ (Ty.at_more Hb1.out mC) Wb1.out (Ty.at_more Hc1.out mC) Wc1.out Kb1.out Kc1.out).mono ?_); rintro e w3 ⟨u3, v3, rfl, hb3, g3⟩; obtain ⟨r3a, r3n, r3c, r3d, r3m, r3e, e9⟩ := sh_Rat g3; simp only [List.cons.injEq, and_true, true_and] at e9; obtain ⟨e8, e9⟩ := e9; subst e8; subst e9; have G3 := Lib.hid g3; clear g3; have HX3 := More.trans HX (show More _ w3 from mC); have HB3 := HB _ HX3; have hz3 := More.size HX3; (try simp at hz3); have hb3 := hb3)
    refine hK.out _ _ ?_ (fun hHeld => ?_)
    · first | exact tC | exact mC2
    clear hK K
    (try simp only [Act.put, tkA, tkB, tkC])
    refine wpAnyH_ready (rs := [17]) (by kernel_rfl) (by simp) ?_
    refine AllReadyH.cons (o := ⟨some 25, _, _, _, _, _⟩) rfl (fun K hK => ?_) AllReadyH.nil
    go_simp
    (go_at_call 96; (with_reducible refine (spec_RatCmpX a1 a1.1.1 (.slice a1a a1n a1c) (.slice a1d a1m a1e) (maxQ b1 c1) (maxQ b1 c1).1.1 (.slice r3a r3n r3c) (.slice r3d r3m r3e) _ (Ty.at_more Ha1.out mC) Wa1.out (Ty.at_more G3.out mC) WMmaxb1c1.out).mono ?_); rintro e w4 ⟨rfl, hb4⟩; rw [D.out]; have HX4 := More.trans HX (show More _ w4 from mC); have HB4 := HB _ HX4; have hz4 := More.size HX4; (try simp at hz4); have hb4 := hb4)
    refine hK.out _ _ ?_ (fun hHeld => ?_)
    · first | exact tC | exact mC2
    clear hK K
    (try simp only [Act.put, tkA, tkB, tkC])
    refine tk (v := ?_) 18 ⟨some 26, _, _, _, _, _⟩ rfl ?_ ?_
    rotate_left 2
    · (intro w hSw; (try dsimp only at hSw); go_simp; (try with_reducible rfl))
    (try simp only [Act.put, tkA, tkB, tkC])
    refine tk (v := ?_) 19 ⟨some 27, _, _, _, _, _⟩ rfl ?_ ?_
    rotate_left 2
    · (intro w hSw; (try dsimp only at hSw); go_simp; (try with_reducible rfl))
    (try simp only [Act.put, tkA, tkB, tkC])
    refine tk (v := ?_) 20 ⟨some 7, _, _, _, _, _⟩ rfl ?_ ?_
    rotate_left 2
    · (intro w hSw; (try dsimp only at hSw); go_simp; (try with_reducible rfl))
    (try simp only [Act.put, tkA, tkB, tkC])
    refine wpAnyH_done (by kernel_rfl) ?_ _
    go_wp2_with fail
    refine wp_region_held_drew (S := (fun w' => Turns [] (((w.alloc (.cells #[.bool a1.1.1, .slice a1a a1n a1c, .slice a1d a1m a1e, .bool a2.1.1, .slice a2a a2n a2c, .slice a2d a2m a2e] 89)).alloc (.cells #[.bool b1.1.1, .slice b1a b1n b1c, .slice b1d b1m b1e, .bool b2.1.1, .slice b2a b2n b2c, .slice b2d b2m b2e] 89)).alloc (.cells #[.bool c1.1.1, .slice c1a c1n c1c, .slice c1d c1m c1e, .bool c2.1.1, .slice c2a c2n c2c, .slice c2d c2m c2e] 89)) w')) (by kernel_rfl) ?_ (fun hHeld => ?_)
    · first | exact tC | exact mC2
    refine tk (v := ?_) 0 ⟨some 28, _, _, _, _, _⟩ rfl ?_ ?_
    rotate_left 2
    · (intro w hSw; (try dsimp only at hSw); go_simp; (try with_reducible rfl))
    (try simp only [Act.put, tkA, tkB, tkC])
    refine tk (v := ?_) 1 ⟨some 29, _, _, _, _, _⟩ rfl ?_ ?_
    rotate_left 2
    · (intro w hSw; (try dsimp only at hSw); go_simp; (try with_reducible rfl))
    (try simp only [Act.put, tkA, tkB, tkC])
    refine tk (v := ?_) 2 ⟨some 30, _, _, _, _, _⟩ rfl ?_ ?_
    rotate_left 2
    · (intro w hSw; (try dsimp only at hSw); go_simp; (try with_reducible rfl))
    (try simp only [Act.put, tkA, tkB, tkC])
    refine tk (v := ?_) 3 ⟨some 31, _, _, _, _, _⟩ rfl ?_ ?_
    rotate_left 2
    · (intro w hSw; (try dsimp only at hSw); go_simp; (try with_reducible rfl))
    (try simp only [Act.put, tkA, tkB, tkC])
    refine tk (v := ?_) 4 ⟨some 32, _, _, _, _, _⟩ rfl ?_ ?_
    rotate_left 2
    · (intro w hSw; (try dsimp only at hSw); go_simp; (try with_reducible rfl))
    (try simp only [Act.put, tkA, tkB, tkC])
    refine tk (v := ?_) 5 ⟨some 33, _, _, _, _, _⟩ rfl ?_ ?_
    rotate_left 2
    · (intro w hSw; (try dsimp only at hSw); go_simp; (try with_reducible rfl))
    (try simp only [Act.put, tkA, tkB, tkC])
    refine tk (v := ?_) 6 ⟨some 34, _, _, _, _, _⟩ rfl ?_ ?_
    rotate_left 2
    · (intro w hSw; (try dsimp only at hSw); go_simp; (try with_reducible rfl))
    (try simp only [Act.put, tkA, tkB, tkC])
    refine tk (v := ?_) 7 ⟨some 35, _, _, _, _, _⟩ rfl ?_ ?_
    rotate_left 2
    · (intro w hSw; (try dsimp only at hSw); go_simp; (try with_reducible rfl))
    (try simp only [Act.put, tkA, tkB, tkC])
    refine wpAnyH_ready (rs := [8]) (by kernel_rfl) (by simp) ?_
    refine AllReadyH.cons (o := ⟨some 36, _, _, _, _, _⟩) rfl (fun K hK => ?_) AllReadyH.nil
    go_simp
    (go_at_call 124; (with_reducible refine (spec_RatMin [.bool b2.1.1, .slice b2a b2n b2c, .slice b2d b2m b2e] b2 [.bool c2.1.1, .slice c2a c2n c2c, .slice c2d c2m c2e] c2 _ (Ty.at_more Hb2.out mC) Wb2.out (Ty.at_more Hc2.out mC) Wc2.out Kb2.out Kc2.out).mono ?_); rintro e w5 ⟨u5, v5, rfl, hb5, g5⟩; obtain ⟨r5a, r5n, r5c, r5d, r5m, r5e, e9⟩ := sh_Rat g5; simp only [List.cons.injEq, and_true, true_and] at e9; obtain ⟨e8, e9⟩ := e9; subst e8; subst e9; have G5 := Lib.hid g5; clear g5; have HX5 := More.trans HX (show More _ w5 from mC); have HB5 := HB _ HX5; have hz5 := More.size HX5; (try simp at hz5); have hb5 := hb5)
    refine hK.out _ _ ?_ (fun hHeld => ?_)
    · first | exact tC | exact mC2
    clear hK K
    (try simp only [Act.put, tkA, tkB, tkC])
    refine wpAnyH_ready (rs := [9]) (by kernel_rfl) (by simp) ?_
    refine AllReadyH.cons (o := ⟨some 37, _, _, _, _, _⟩) rfl (fun K hK => ?_) AllReadyH.nil
    go_simp
    (go_at_call 96; (with_reducible refine (spec_RatCmpX a2 a2.1.1 (.slice a2a a2n a2c) (.slice a2d a2m a2e) (minQ b2 c2) (minQ b2 c2).1.1 (.slice r5a r5n r5c) (.slice r5d r5m r5e) _ (Ty.at_more Ha2.out mC) Wa2.out (Ty.at_more G5.out mC) WMminb2c2.out).mono ?_); rintro e w6 ⟨rfl, hb6⟩; rw [E.out]; have HX6 := More.trans HX (show More _ w6 from mC); have HB6 := HB _ HX6; have hz6 := More.size HX6; (try simp at hz6); have hb6 := hb6)
    refine hK.out _ _ ?_ (fun hHeld => ?_)
    · first | exact tC | exact mC2
    clear hK K
    (try simp only [Act.put, tkA, tkB, tkC])
    refine tk (v := ?_) 10 ⟨some 38, _, _, _, _, _⟩ rfl ?_ ?_
    rotate_left 2
    · (intro w hSw; (try dsimp only at hSw); go_simp; (try with_reducible rfl))
    (try simp only [Act.put, tkA, tkB, tkC])
    refine tk (v := ?_) 11 ⟨some 39, _, _, _, _, _⟩ rfl ?_ ?_
    rotate_left 2
    · (intro w hSw; (try dsimp only at hSw); go_simp; (try with_reducible rfl))
    (try simp only [Act.put, tkA, tkB, tkC])
    refine tk (v := ?_) 12 ⟨some 40, _, _, _, _, _⟩ rfl ?_ ?_
    rotate_left 2
    · (intro w hSw; (try dsimp only at hSw); go_simp; (try with_reducible rfl))
    (try simp only [Act.put, tkA, tkB, tkC])
    refine tk (v := ?_) 13 ⟨some 41, _, _, _, _, _⟩ rfl ?_ ?_
    rotate_left 2
    · (intro w hSw; (try dsimp only at hSw); go_simp; (try with_reducible rfl))
    (try simp only [Act.put, tkA, tkB, tkC])
    refine tk (v := ?_) 14 ⟨some 42, _, _, _, _, _⟩ rfl ?_ ?_
    rotate_left 2
    · (intro w hSw; (try dsimp only at hSw); go_simp; (try with_reducible rfl))
    (try simp only [Act.put, tkA, tkB, tkC])
    refine tk (v := ?_) 15 ⟨some 43, _, _, _, _, _⟩ rfl ?_ ?_
    rotate_left 2
    · (intro w hSw; (try dsimp only at hSw); go_simp; (try with_reducible rfl))
    (try simp only [Act.put, tkA, tkB, tkC])
    refine tk (v := ?_) 16 ⟨some 44, _, _, _, _, _⟩ rfl ?_ ?_
    rotate_left 2
    · (intro w hSw; (try dsimp only at hSw); go_simp; (try with_reducible rfl))
    (try simp only [Act.put, tkA, tkB, tkC])
    refine tk (v := ?_) 17 ⟨some 45, _, _, _, _, _⟩ rfl ?_ ?_
    rotate_left 2
    · (intro w hSw; (try dsimp only at hSw); go_simp; (try with_reducible rfl))
    (try simp only [Act.put, tkA, tkB, tkC])
    refine tk (v := ?_) 18 ⟨some 46, _, _, _, _, _⟩ rfl ?_ ?_
    rotate_left 2
    · (intro w hSw; (try dsimp only at hSw); go_simp; (try with_reducible rfl))
    (try simp only [Act.put, tkA, tkB, tkC])
    refine wpAnyH_ready (rs := [19]) (by kernel_rfl) (by simp) ?_
    refine AllReadyH.cons (o := ⟨some 47, _, _, _, _, _⟩) rfl (fun K hK => ?_) AllReadyH.nil
    go_simp
    (go_at_call 123; (with_reducible refine (spec_RatMax [.bool b2.1.1, .slice b2a b2n b2c, .slice b2d b2m b2e] b2 [.bool c2.1.1, .slice c2a c2n c2c, .slice c2d c2m c2e] c2 _ (Ty.at_more Hb2.out mC) Wb2.out (Ty.at_more Hc2.out mC) Wc2.out Kb2.out Kc2.out).mono ?_); rintro e w7 ⟨u7, v7, rfl, hb7, g7⟩; obtain ⟨r7a, r7n, r7c, r7d, r7m, r7e, e9⟩ := sh_Rat g7; simp only [List.cons.injEq, and_true, true_and] at e9; obtain ⟨e8, e9⟩ := e9; subst e8; subst e9; have G7 := Lib.hid g7; clear g7; have HX7 := More.trans HX (show More _ w7 from mC); have HB7 := HB _ HX7; have hz7 := More.size HX7; (try simp at hz7); have hb7 := hb7)
    refine hK.out _ _ ?_ (fun hHeld => ?_)
    · first | exact tC | exact mC2
    clear hK K
    (try simp only [Act.put, tkA, tkB, tkC])
    refine wpAnyH_ready (rs := [20]) (by kernel_rfl) (by simp) ?_
    refine AllReadyH.cons (o := ⟨some 48, _, _, _, _, _⟩) rfl (fun K hK => ?_) AllReadyH.nil
    go_simp
    (go_at_call 96; (with_reducible refine (spec_RatCmpX a2 a2.1.1 (.slice a2a a2n a2c) (.slice a2d a2m a2e) (maxQ b2 c2) (maxQ b2 c2).1.1 (.slice r7a r7n r7c) (.slice r7d r7m r7e) _ (Ty.at_more Ha2.out mC) Wa2.out (Ty.at_more G7.out mC) WMmaxb2c2.out).mono ?_); rintro e w8 ⟨rfl, hb8⟩; rw [F.out]; have HX8 := More.trans HX (show More _ w8 from mC); have HB8 := HB _ HX8; have hz8 := More.size HX8; (try simp at hz8); have hb8 := hb8)
    refine hK.out _ _ ?_ (fun hHeld => ?_)
    · first | exact tC | exact mC2
    clear hK K
    (try simp only [Act.put, tkA, tkB, tkC])
    refine tk (v := ?_) 21 ⟨some 49, _, _, _, _, _⟩ rfl ?_ ?_
    rotate_left 2
    · (intro w hSw; (try dsimp only at hSw); go_simp; (try with_reducible rfl))
    (try simp only [Act.put, tkA, tkB, tkC])
    refine tk (v := ?_) 22 ⟨some 50, _, _, _, _, _⟩ rfl ?_ ?_
    rotate_left 2
    · (intro w hSw; (try dsimp only at hSw); go_simp; (try with_reducible rfl))
    (try simp only [Act.put, tkA, tkB, tkC])
    refine tk (v := ?_) 23 ⟨some 6, _, _, _, _, _⟩ rfl ?_ ?_
    rotate_left 2
    · (intro w hSw; (try dsimp only at hSw); go_simp; (try with_reducible rfl))
    (try simp only [Act.put, tkA, tkB, tkC])
    refine wpAnyH_done (by kernel_rfl) ?_ _
    go_wp2_with fail
    go_ret
    exact ⟨ret_bool (by first | (simp [spanPB, betB, C.out, D.out, E.out, F.out]; done) | (simp [spanPB, betB, C.out, D.out, E.out, F.out] <;> omega)), mC⟩
  have hFd : decide (f0 ≤ 0) = true := decide_eq_true (by omega)
  have HX := More.refl (((w.alloc (.cells #[.bool a1.1.1, .slice a1a a1n a1c, .slice a1d a1m a1e, .bool a2.1.1, .slice a2a a2n a2c, .slice a2d a2m a2e] 89)).alloc (.cells #[.bool b1.1.1, .slice b1a b1n b1c, .slice b1d b1m b1e, .bool b2.1.1, .slice b2a b2n b2c, .slice b2d b2m b2e] 89)).alloc (.cells #[.bool c1.1.1, .slice c1a c1n c1c, .slice c1d c1m c1e, .bool c2.1.1, .slice c2a c2n c2c, .slice c2d c2m c2e] 89))
  have HB := fun (w' : World) (h : More (((w.alloc (.cells #[.bool a1.1.1, .slice a1a a1n a1c, .slice a1d a1m a1e, .bool a2.1.1, .slice a2a a2n a2c, .slice a2d a2m a2e] 89)).alloc (.cells #[.bool b1.1.1, .slice b1a b1n b1c, .slice b1d b1m b1e, .bool b2.1.1, .slice b2a b2n b2c, .slice b2d b2m b2e] 89)).alloc (.cells #[.bool c1.1.1, .slice c1a c1n c1c, .slice c1d c1m c1e, .bool c2.1.1, .slice c2a c2n c2c, .slice c2d c2m c2e] 89)) w') => And.intro (bx6 (w.heap.size) (by simp) (More.un (More.un h))) (And.intro (bx6 (w.heap.size + 1) (by simp) (More.un h)) (bx6 (w.heap.size + 1 + 1) (by simp) h))
  have HC := fun (w' : World) (h : Turns [] _ w') => HB w' (Turns.more h)
  go_enter Try.func129, Try.ntmps129
  go_wp2_with fail
  refine wp_region_held_drew (S := (fun w' => Turns [] (((w.alloc (.cells #[.bool a1.1.1, .slice a1a a1n a1c, .slice a1d a1m a1e, .bool a2.1.1, .slice a2a a2n a2c, .slice a2d a2m a2e] 89)).alloc (.cells #[.bool b1.1.1, .slice b1a b1n b1c, .slice b1d b1m b1e, .bool b2.1.1, .slice b2a b2n b2c, .slice b2d b2m b2e] 89)).alloc (.cells #[.bool c1.1.1, .slice c1a c1n c1c, .slice c1d c1m c1e, .bool c2.1.1, .slice c2a c2n c2c, .slice c2d c2m c2e] 89)) w')) (by kernel_rfl) ?_ (fun hHeld => ?_)
  · first | exact tC | exact mC2
  refine tk (v := ?_) 0 ⟨some 8, _, _, _, _, _⟩ rfl ?_ ?_
  rotate_left 2
  · (intro w hSw; (try dsimp only at hSw); go_simp; (try with_reducible rfl))
  (try simp only [Act.put, tkA, tkB, tkC])
  refine tk (v := ?_) 1 ⟨some 9, _, _, _, _, _⟩ rfl ?_ ?_
  rotate_left 2
  · (intro w hSw; (try dsimp only at hSw); go_simp; (try with_reducible rfl))
  (try simp only [Act.put, tkA, tkB, tkC])
  refine tk (v := ?_) 2 ⟨some 10, _, _, _, _, _⟩ rfl ?_ ?_
  rotate_left 2
  · (intro w hSw; (try dsimp only at hSw); go_simp; (try with_reducible rfl))
  (try simp only [Act.put, tkA, tkB, tkC])
  refine tk (v := ?_) 3 ⟨some 11, _, _, _, _, _⟩ rfl ?_ ?_
  rotate_left 2
  · (intro w hSw; (try dsimp only at hSw); go_simp; (try with_reducible rfl))
  (try simp only [Act.put, tkA, tkB, tkC])
  refine tk (v := ?_) 4 ⟨some 12, _, _, _, _, _⟩ rfl ?_ ?_
  rotate_left 2
  · (intro w hSw; (try dsimp only at hSw); go_simp; (try with_reducible rfl))
  (try simp only [Act.put, tkA, tkB, tkC])
  refine tk (v := ?_) 5 ⟨some 13, _, _, _, _, _⟩ rfl ?_ ?_
  rotate_left 2
  · (intro w hSw; (try dsimp only at hSw); go_simp; (try with_reducible rfl))
  (try simp only [Act.put, tkA, tkB, tkC])
  refine wpAnyH_ready (rs := [6]) (by kernel_rfl) (by simp) ?_
  refine AllReadyH.cons (o := ⟨some 14, _, _, _, _, _⟩) rfl (fun K hK => ?_) AllReadyH.nil
  go_simp
  (go_at_call 124; (with_reducible refine (spec_RatMin [.bool b1.1.1, .slice b1a b1n b1c, .slice b1d b1m b1e] b1 [.bool c1.1.1, .slice c1a c1n c1c, .slice c1d c1m c1e] c1 _ (Ty.at_more Hb1.out mC) Wb1.out (Ty.at_more Hc1.out mC) Wc1.out Kb1.out Kc1.out).mono ?_); rintro e w1 ⟨u1, v1, rfl, hb1, g1⟩; obtain ⟨r1a, r1n, r1c, r1d, r1m, r1e, e9⟩ := sh_Rat g1; simp only [List.cons.injEq, and_true, true_and] at e9; obtain ⟨e8, e9⟩ := e9; subst e8; subst e9; have G1 := Lib.hid g1; clear g1; have HX1 := More.trans HX (show More _ w1 from mC); have HB1 := HB _ HX1; have hz1 := More.size HX1; (try simp at hz1); have hb1 := hb1)
  refine hK.out _ _ ?_ (fun hHeld => ?_)
  · first | exact tC | exact mC2
  clear hK K
  (try simp only [Act.put, tkA, tkB, tkC])
  refine wpAnyH_ready (rs := [7]) (by kernel_rfl) (by simp) ?_
  refine AllReadyH.cons (o := ⟨some 15, _, _, _, _, _⟩) rfl (fun K hK => ?_) AllReadyH.nil
  go_simp
  (go_at_call 96; (with_reducible refine (spec_RatCmpX a1 a1.1.1 (.slice a1a a1n a1c) (.slice a1d a1m a1e) (minQ b1 c1) (minQ b1 c1).1.1 (.slice r1a r1n r1c) (.slice r1d r1m r1e) _ (Ty.at_more Ha1.out mC) Wa1.out (Ty.at_more G1.out mC) WMminb1c1.out).mono ?_); rintro e w2 ⟨rfl, hb2⟩; rw [C.out]; have HX2 := More.trans HX (show More _ w2 from mC); have HB2 := HB _ HX2; have hz2 := More.size HX2; (try simp at hz2); have hb2 := hb2)
  refine hK.out _ _ ?_ (fun hHeld => ?_)
  · first | exact tC | exact mC2
  clear hK K
  (try simp only [Act.put, tkA, tkB, tkC])
  refine tk (v := ?_) 8 ⟨some 16, _, _, _, _, _⟩ rfl ?_ ?_
  rotate_left 2
  · (intro w hSw; (try dsimp only at hSw); go_simp; (try with_reducible rfl))
  (try simp only [Act.put, tkA, tkB, tkC])
  refine tk (v := ?_) 9 ⟨some 17, _, _, _, _, _⟩ rfl ?_ ?_
  rotate_left 2
  · (intro w hSw; (try dsimp only at hSw); go_simp; (try with_reducible rfl))
  (try simp only [Act.put, tkA, tkB, tkC])
  refine tk (v := ?_) 10 ⟨some 18, _, _, _, _, _⟩ rfl ?_ ?_
  rotate_left 2
  · (intro w hSw; (try dsimp only at hSw); go_simp; (try with_reducible rfl))
  (try simp only [Act.put, tkA, tkB, tkC])
  refine tk (v := ?_) 11 ⟨some 19, _, _, _, _, _⟩ rfl ?_ ?_
  rotate_left 2
  · (intro w hSw; (try dsimp only at hSw); go_simp; (try with_reducible rfl))
  (try simp only [Act.put, tkA, tkB, tkC])
  refine tk (v := ?_) 12 ⟨some 20, _, _, _, _, _⟩ rfl ?_ ?_
  rotate_left 2
  · (intro w hSw; (try dsimp only at hSw); go_simp; (try with_reducible rfl))
  (try simp only [Act.put, tkA, tkB, tkC])
  refine tk (v := ?_) 13 ⟨some 21, _, _, _, _, _⟩ rfl ?_ ?_
  rotate_left 2
  · (intro w hSw; (try dsimp only at hSw); go_simp; (try with_reducible rfl))
  (try simp only [Act.put, tkA, tkB, tkC])
  refine tk (v := ?_) 14 ⟨some 22, _, _, _, _, _⟩ rfl ?_ ?_
  rotate_left 2
  · (intro w hSw; (try dsimp only at hSw); go_simp; (try with_reducible rfl))
  (try simp only [Act.put, tkA, tkB, tkC])
  refine tk (v := ?_) 15 ⟨some 23, _, _, _, _, _⟩ rfl ?_ ?_
  rotate_left 2
  · (intro w hSw; (try dsimp only at hSw); go_simp; (try with_reducible rfl))
  (try simp only [Act.put, tkA, tkB, tkC])
  refine wpAnyH_ready (rs := [16]) (by kernel_rfl) (by simp) ?_
  refine AllReadyH.cons (o := ⟨some 24, _, _, _, _, _⟩) rfl (fun K hK => ?_) AllReadyH.nil
  go_simp
  (go_at_call 123; (with_reducible refine (spec_RatMax [.bool b1.1.1, .slice b1a b1n b1c, .slice b1d b1m b1e] b1 [.bool c1.1.1, .slice c1a c1n c1c, .slice c1d c1m c1e] c1 _ (Ty.at_more Hb1.out mC) Wb1.out (Ty.at_more Hc1.out mC) Wc1.out Kb1.out Kc1.out).mono ?_); rintro e w3 ⟨u3, v3, rfl, hb3, g3⟩; obtain ⟨r3a, r3n, r3c, r3d, r3m, r3e, e9⟩ := sh_Rat g3; simp only [List.cons.injEq, and_true, true_and] at e9; obtain ⟨e8, e9⟩ := e9; subst e8; subst e9; have G3 := Lib.hid g3; clear g3; have HX3 := More.trans HX (show More _ w3 from mC); have HB3 := HB _ HX3; have hz3 := More.size HX3; (try simp at hz3); have hb3 := hb3)
  refine hK.out _ _ ?_ (fun hHeld => ?_)
  · first | exact tC | exact mC2
  clear hK K
  (try simp only [Act.put, tkA, tkB, tkC])
  refine wpAnyH_ready (rs := [17]) (by kernel_rfl) (by simp) ?_
  refine AllReadyH.cons (o := ⟨some 25, _, _, _, _, _⟩) rfl (fun K hK => ?_) AllReadyH.nil
  go_simp
  (go_at_call 96; (with_reducible refine (spec_RatCmpX a1 a1.1.1 (.slice a1a a1n a1c) (.slice a1d a1m a1e) (maxQ b1 c1) (maxQ b1 c1).1.1 (.slice r3a r3n r3c) (.slice r3d r3m r3e) _ (Ty.at_more Ha1.out mC) Wa1.out (Ty.at_more G3.out mC) WMmaxb1c1.out).mono ?_); rintro e w4 ⟨rfl, hb4⟩; rw [D.out]; have HX4 := More.trans HX (show More _ w4 from mC); have HB4 := HB _ HX4; have hz4 := More.size HX4; (try simp at hz4); have hb4 := hb4)
  refine hK.out _ _ ?_ (fun hHeld => ?_)
  · first | exact tC | exact mC2
  clear hK K
  (try simp only [Act.put, tkA, tkB, tkC])
  refine tk (v := ?_) 18 ⟨some 26, _, _, _, _, _⟩ rfl ?_ ?_
  rotate_left 2
  · (intro w hSw; (try dsimp only at hSw); go_simp; (try with_reducible rfl))
  (try simp only [Act.put, tkA, tkB, tkC])
  refine tk (v := ?_) 19 ⟨some 27, _, _, _, _, _⟩ rfl ?_ ?_
  rotate_left 2
  · (intro w hSw; (try dsimp only at hSw); go_simp; (try with_reducible rfl))
  (try simp only [Act.put, tkA, tkB, tkC])
  refine tk (v := ?_) 20 ⟨some 7, _, _, _, _, _⟩ rfl ?_ ?_
  rotate_left 2
  · (intro w hSw; (try dsimp only at hSw); go_simp; (try with_reducible rfl))
  (try simp only [Act.put, tkA, tkB, tkC])
  refine wpAnyH_done (by kernel_rfl) ?_ _
  go_wp2_with fail
  refine wp_region_held_drew (S := (fun w' => Turns [] (((w.alloc (.cells #[.bool a1.1.1, .slice a1a a1n a1c, .slice a1d a1m a1e, .bool a2.1.1, .slice a2a a2n a2c, .slice a2d a2m a2e] 89)).alloc (.cells #[.bool b1.1.1, .slice b1a b1n b1c, .slice b1d b1m b1e, .bool b2.1.1, .slice b2a b2n b2c, .slice b2d b2m b2e] 89)).alloc (.cells #[.bool c1.1.1, .slice c1a c1n c1c, .slice c1d c1m c1e, .bool c2.1.1, .slice c2a c2n c2c, .slice c2d c2m c2e] 89)) w')) (by kernel_rfl) ?_ (fun hHeld => ?_)
  · first | exact tC | exact mC2
  refine tk (v := ?_) 0 ⟨some 28, _, _, _, _, _⟩ rfl ?_ ?_
  rotate_left 2
  · (intro w hSw; (try dsimp only at hSw); go_simp; (try with_reducible rfl))
  (try simp only [Act.put, tkA, tkB, tkC])
  refine tk (v := ?_) 1 ⟨some 29, _, _, _, _, _⟩ rfl ?_ ?_
  rotate_left 2
  · (intro w hSw; (try dsimp only at hSw); go_simp; (try with_reducible rfl))
  (try simp only [Act.put, tkA, tkB, tkC])
  refine tk (v := ?_) 2 ⟨some 30, _, _, _, _, _⟩ rfl ?_ ?_
  rotate_left 2
  · (intro w hSw; (try dsimp only at hSw); go_simp; (try with_reducible rfl))
  (try simp only [Act.put, tkA, tkB, tkC])
  refine tk (v := ?_) 3 ⟨some 31, _, _, _, _, _⟩ rfl ?_ ?_
  rotate_left 2
  · (intro w hSw; (try dsimp only at hSw); go_simp; (try with_reducible rfl))
  (try simp only [Act.put, tkA, tkB, tkC])
  refine tk (v := ?_) 4 ⟨some 32, _, _, _, _, _⟩ rfl ?_ ?_
  rotate_left 2
  · (intro w hSw; (try dsimp only at hSw); go_simp; (try with_reducible rfl))
  (try simp only [Act.put, tkA, tkB, tkC])
  refine tk (v := ?_) 5 ⟨some 33, _, _, _, _, _⟩ rfl ?_ ?_
  rotate_left 2
  · (intro w hSw; (try dsimp only at hSw); go_simp; (try with_reducible rfl))
  (try simp only [Act.put, tkA, tkB, tkC])
  refine tk (v := ?_) 6 ⟨some 34, _, _, _, _, _⟩ rfl ?_ ?_
  rotate_left 2
  · (intro w hSw; (try dsimp only at hSw); go_simp; (try with_reducible rfl))
  (try simp only [Act.put, tkA, tkB, tkC])
  refine tk (v := ?_) 7 ⟨some 35, _, _, _, _, _⟩ rfl ?_ ?_
  rotate_left 2
  · (intro w hSw; (try dsimp only at hSw); go_simp; (try with_reducible rfl))
  (try simp only [Act.put, tkA, tkB, tkC])
  refine wpAnyH_ready (rs := [8]) (by kernel_rfl) (by simp) ?_
  refine AllReadyH.cons (o := ⟨some 36, _, _, _, _, _⟩) rfl (fun K hK => ?_) AllReadyH.nil
  go_simp
  (go_at_call 124; (with_reducible refine (spec_RatMin [.bool b2.1.1, .slice b2a b2n b2c, .slice b2d b2m b2e] b2 [.bool c2.1.1, .slice c2a c2n c2c, .slice c2d c2m c2e] c2 _ (Ty.at_more Hb2.out mC) Wb2.out (Ty.at_more Hc2.out mC) Wc2.out Kb2.out Kc2.out).mono ?_); rintro e w5 ⟨u5, v5, rfl, hb5, g5⟩; obtain ⟨r5a, r5n, r5c, r5d, r5m, r5e, e9⟩ := sh_Rat g5; simp only [List.cons.injEq, and_true, true_and] at e9; obtain ⟨e8, e9⟩ := e9; subst e8; subst e9; have G5 := Lib.hid g5; clear g5; have HX5 := More.trans HX (show More _ w5 from mC); have HB5 := HB _ HX5; have hz5 := More.size HX5; (try simp at hz5); have hb5 := hb5)
  refine hK.out _ _ ?_ (fun hHeld => ?_)
  · first | exact tC | exact mC2
  clear hK K
  (try simp only [Act.put, tkA, tkB, tkC])
  refine wpAnyH_ready (rs := [9]) (by kernel_rfl) (by simp) ?_
  refine AllReadyH.cons (o := ⟨some 37, _, _, _, _, _⟩) rfl (fun K hK => ?_) AllReadyH.nil
  go_simp
  (go_at_call 96; (with_reducible refine (spec_RatCmpX a2 a2.1.1 (.slice a2a a2n a2c) (.slice a2d a2m a2e) (minQ b2 c2) (minQ b2 c2).1.1 (.slice r5a r5n r5c) (.slice r5d r5m r5e) _ (Ty.at_more Ha2.out mC) Wa2.out (Ty.at_more G5.out mC) WMminb2c2.out).mono ?_); rintro e w6 ⟨rfl, hb6⟩; rw [E.out]; have HX6 := More.trans HX (show More _ w6 from mC); have HB6 := HB _ HX6; have hz6 := More.size HX6; (try simp at hz6); have hb6 := hb6)
  refine hK.out _ _ ?_ (fun hHeld => ?_)
  · first | exact tC | exact mC2
  clear hK K
  (try simp only [Act.put, tkA, tkB, tkC])
  refine tk (v := ?_) 10 ⟨some 38, _, _, _, _, _⟩ rfl ?_ ?_
  rotate_left 2
  · (intro w hSw; (try dsimp only at hSw); go_simp; (try with_reducible rfl))
  (try simp only [Act.put, tkA, tkB, tkC])
  refine tk (v := ?_) 11 ⟨some 39, _, _, _, _, _⟩ rfl ?_ ?_
  rotate_left 2
  · (intro w hSw; (try dsimp only at hSw); go_simp; (try with_reducible rfl))
  (try simp only [Act.put, tkA, tkB, tkC])
  refine tk (v := ?_) 12 ⟨some 40, _, _, _, _, _⟩ rfl ?_ ?_
  rotate_left 2
  · (intro w hSw; (try dsimp only at hSw); go_simp; (try with_reducible rfl))
  (try simp only [Act.put, tkA, tkB, tkC])
  refine tk (v := ?_) 13 ⟨some 41, _, _, _, _, _⟩ rfl ?_ ?_
  rotate_left 2
  · (intro w hSw; (try dsimp only at hSw); go_simp; (try with_reducible rfl))
  (try simp only [Act.put, tkA, tkB, tkC])
  refine tk (v := ?_) 14 ⟨some 42, _, _, _, _, _⟩ rfl ?_ ?_
  rotate_left 2
  · (intro w hSw; (try dsimp only at hSw); go_simp; (try with_reducible rfl))
  (try simp only [Act.put, tkA, tkB, tkC])
  refine tk (v := ?_) 15 ⟨some 43, _, _, _, _, _⟩ rfl ?_ ?_
  rotate_left 2
  · (intro w hSw; (try dsimp only at hSw); go_simp; (try with_reducible rfl))
  (try simp only [Act.put, tkA, tkB, tkC])
  refine tk (v := ?_) 16 ⟨some 44, _, _, _, _, _⟩ rfl ?_ ?_
  rotate_left 2
  · (intro w hSw; (try dsimp only at hSw); go_simp; (try with_reducible rfl))
  (try simp only [Act.put, tkA, tkB, tkC])
  refine tk (v := ?_) 17 ⟨some 45, _, _, _, _, _⟩ rfl ?_ ?_
  rotate_left 2
  · (intro w hSw; (try dsimp only at hSw); go_simp; (try with_reducible rfl))
  (try simp only [Act.put, tkA, tkB, tkC])
  refine tk (v := ?_) 18 ⟨some 46, _, _, _, _, _⟩ rfl ?_ ?_
  rotate_left 2
  · (intro w hSw; (try dsimp only at hSw); go_simp; (try with_reducible rfl))
  (try simp only [Act.put, tkA, tkB, tkC])
  refine wpAnyH_ready (rs := [19]) (by kernel_rfl) (by simp) ?_
  refine AllReadyH.cons (o := ⟨some 47, _, _, _, _, _⟩) rfl (fun K hK => ?_) AllReadyH.nil
  go_simp
  (go_at_call 123; (with_reducible refine (spec_RatMax [.bool b2.1.1, .slice b2a b2n b2c, .slice b2d b2m b2e] b2 [.bool c2.1.1, .slice c2a c2n c2c, .slice c2d c2m c2e] c2 _ (Ty.at_more Hb2.out mC) Wb2.out (Ty.at_more Hc2.out mC) Wc2.out Kb2.out Kc2.out).mono ?_); rintro e w7 ⟨u7, v7, rfl, hb7, g7⟩; obtain ⟨r7a, r7n, r7c, r7d, r7m, r7e, e9⟩ := sh_Rat g7; simp only [List.cons.injEq, and_true, true_and] at e9; obtain ⟨e8, e9⟩ := e9; subst e8; subst e9; have G7 := Lib.hid g7; clear g7; have HX7 := More.trans HX (show More _ w7 from mC); have HB7 := HB _ HX7; have hz7 := More.size HX7; (try simp at hz7); have hb7 := hb7)
  refine hK.out _ _ ?_ (fun hHeld => ?_)
  · first | exact tC | exact mC2
  clear hK K
  (try simp only [Act.put, tkA, tkB, tkC])
  refine wpAnyH_ready (rs := [20]) (by kernel_rfl) (by simp) ?_
  refine AllReadyH.cons (o := ⟨some 48, _, _, _, _, _⟩) rfl (fun K hK => ?_) AllReadyH.nil
  go_simp
  (go_at_call 96; (with_reducible refine (spec_RatCmpX a2 a2.1.1 (.slice a2a a2n a2c) (.slice a2d a2m a2e) (maxQ b2 c2) (maxQ b2 c2).1.1 (.slice r7a r7n r7c) (.slice r7d r7m r7e) _ (Ty.at_more Ha2.out mC) Wa2.out (Ty.at_more G7.out mC) WMmaxb2c2.out).mono ?_); rintro e w8 ⟨rfl, hb8⟩; rw [F.out]; have HX8 := More.trans HX (show More _ w8 from mC); have HB8 := HB _ HX8; have hz8 := More.size HX8; (try simp at hz8); have hb8 := hb8)
  refine hK.out _ _ ?_ (fun hHeld => ?_)
  · first | exact tC | exact mC2
  clear hK K
  (try simp only [Act.put, tkA, tkB, tkC])
  refine tk (v := ?_) 21 ⟨some 49, _, _, _, _, _⟩ rfl ?_ ?_
  rotate_left 2
  · (intro w hSw; (try dsimp only at hSw); go_simp; (try with_reducible rfl))
  (try simp only [Act.put, tkA, tkB, tkC])
  refine tk (v := ?_) 22 ⟨some 50, _, _, _, _, _⟩ rfl ?_ ?_
  rotate_left 2
  · (intro w hSw; (try dsimp only at hSw); go_simp; (try with_reducible rfl))
  (try simp only [Act.put, tkA, tkB, tkC])
  refine tk (v := ?_) 23 ⟨some 6, _, _, _, _, _⟩ rfl ?_ ?_
  rotate_left 2
  · (intro w hSw; (try dsimp only at hSw); go_simp; (try with_reducible rfl))
  (try simp only [Act.put, tkA, tkB, tkC])
  refine wpAnyH_done (by kernel_rfl) ?_ _
  go_wp2_with fail
  go_ret
  exact ⟨ret_bool (by first | (simp [spanPB, betB, C.out, D.out, E.out, F.out]; done) | (simp [spanPB, betB, C.out, D.out, E.out, F.out] <;> omega)), mC⟩
end Go.Proofs.Ytkhcblheekfdmaa
