/- The lesser and the greater of two fractions; between two; in a span. -/
import Derived.Test.YteihkhniibncnaaGreatThn
import Derived.Test.YteihkhniibncnaaGreatGSra
import Derived.Test.YteihkhniibncnaaGreatPnt
import Derived.Test.YteihkhniibncnaaGreatMan
namespace Go.Proofs.YteihkhniibncnaaGreat
open Go.RowKit
noncomputable def minQ (x y : QR) : QR := if rCmp x y ≤ 0 then x else y
noncomputable def maxQ (x y : QR) : QR := if 0 ≤ rCmp x y then x else y
theorem raw_fr {w : World} {x : QR} {b : Bool} {u v : Value} (hx : ratOkB x = true) (hs : decide ((frOf x).1 < 0) = b) (h : RatAt w (frOf x) u v) : tRat.at w [.bool b, u, v] x := by
  have h1 := h.out
  rw [enc_frOf hx, hs] at h1
  exact h1
set_option maxRecDepth 8000 in
set_option maxHeartbeats 12800000 in
theorem impl_ratMin (cs1 : List Value) (p : QR) (cs2 : List Value) (q : QR) (w : World) (hv1 : tRat.at w cs1 p) (hw1 : wRat p ≤ 1048576) (hv2 : tRat.at w cs2 q) (hw2 : wRat q ≤ 1048576) (kp : ratOkB p = true) (kq : ratOkB q = true) :
    Calls Tryz.prog 149 #[.agg cs1.toArray, .agg cs2.toArray] w fun e w' => ∃ u v, e = .returned (.agg #[.bool (minQ p q).1.1, u, v]) ∧ More w w' ∧ tRat.at w' [.bool (minQ p q).1.1, u, v] (minQ p q) := by
  obtain ⟨pa, pn, pc, pd, pm, pe, rfl⟩ := sh_Rat hv1
  have Hp := Lib.hid hv1; have Wp := Lib.hid hw1
  have HV1 : Hid (tRat.at w [.bool p.1.1, .slice pa pn pc, .slice pd pm pe] p) := Lib.hid hv1; have HW1 := Lib.hid hw1; clear hv1 hw1
  obtain ⟨qa, qn, qc, qd, qm, qe, rfl⟩ := sh_Rat hv2
  have Hq := Lib.hid hv2; have Wq := Lib.hid hw2
  have HV2 : Hid (tRat.at w [.bool q.1.1, .slice qa qn qc, .slice qd qm qe] q) := Lib.hid hv2; have HW2 := Lib.hid hw2; clear hv2 hw2
  have Kp := Lib.hid kp; have Kq := Lib.hid kq; clear kp kq
  show Calls Tryz.prog 149 #[.agg #[.bool p.1.1, .slice pa pn pc, .slice pd pm pe], .agg #[.bool q.1.1, .slice qa qn qc, .slice qd qm qe]] w _
  obtain ⟨c, hc⟩ : ∃ c, rCmp p q = c := ⟨_, rfl⟩
  have C := Lib.hid hc
  obtain ⟨s1, a1⟩ := frOf_at Hp.out Kp.out
  obtain ⟨s2, a2⟩ := frOf_at Hq.out Kq.out
  have Ap := Lib.hid a1; have Aq := Lib.hid a2; have Sp := Lib.hid s1; have Sq := Lib.hid s2; clear a1 a2 s1 s2
  have Vp := Lib.hid (frOf_vd p); have Vq := Lib.hid (frOf_vd q)
  have Np : Hid (decide ((frOf p).2 ≠ 0) = true) := Lib.hid (decide_eq_true (fr_ne Kp.out)); have Nq : Hid (decide ((frOf q).2 ≠ 0) = true) := Lib.hid (decide_eq_true (fr_ne Kq.out))
  clear hc
  rcases (show c ≤ 0 ∨ 0 < c by omega) with hc | hc
  · rw [show minQ p q = p from by unfold minQ; rw [C.out, if_pos (by omega)]]
    have HX := More.refl (((w.alloc (.cells #[.bool p.1.1, .slice pa pn pc, .slice pd pm pe] 30)).alloc (.cells #[.bool q.1.1, .slice qa qn qc, .slice qd qm qe] 30)).alloc (.cells #[.bool false, .slice none 0 0, .slice none 0 0] 30))
    have HC := fun (w' : World) (h : Turns [w.heap.size + 1 + 1] (((w.alloc (.cells #[.bool p.1.1, .slice pa pn pc, .slice pd pm pe] 30)).alloc (.cells #[.bool q.1.1, .slice qa qn qc, .slice qd qm qe] 30)).alloc (.cells #[.bool false, .slice none 0 0, .slice none 0 0] 30)) w') => And.intro (bt3 (w.heap.size) (by simp) (More.un (More.un (More.refl _))) h (by simp <;> omega) (by simp <;> omega)) (bt3 (w.heap.size + 1) (by simp) (More.un (More.refl _)) h (by simp <;> omega) (by simp <;> omega))
    have HB := fun (w' : World) (h : More (((w.alloc (.cells #[.bool p.1.1, .slice pa pn pc, .slice pd pm pe] 30)).alloc (.cells #[.bool q.1.1, .slice qa qn qc, .slice qd qm qe] 30)).alloc (.cells #[.bool false, .slice none 0 0, .slice none 0 0] 30)) w') => And.intro (bx3 (w.heap.size) (by simp) (More.un (More.un h))) (And.intro (bx3 (w.heap.size + 1) (by simp) (More.un h)) (bx3 (w.heap.size + 1 + 1) (by simp) h))
    go_enter Tryz.func149, Tryz.ntmps149
    go_wp2_with (first | (go_at_call 59; (with_reducible refine (impl_isGood p.1.1 (frOf p) (.slice pa pn pc) (.slice pd pm pe) _ (RatAt.more Ap.out mC)).mono ?_); rintro e w1 ⟨rfl, hb1⟩; have HX1 := More.trans HX (show More _ w1 from mC); have HB1 := HB _ HX1; have hz1 := More.size HX1; (try simp at hz1); have hb1 := hb1; rw [Np.out]) | (go_at_call 59; (with_reducible refine (impl_isGood q.1.1 (frOf q) (.slice qa qn qc) (.slice qd qm qe) _ (RatAt.more Aq.out mC)).mono ?_); rintro e w2 ⟨rfl, hb2⟩; have HX2 := More.trans HX (show More _ w2 from mC); have HB2 := HB _ HX2; have hz2 := More.size HX2; (try simp at hz2); have hb2 := hb2; rw [Nq.out]) | (go_at_call 134; (with_reducible refine (impl_ratCmpX p p.1.1 (.slice pa pn pc) (.slice pd pm pe) q q.1.1 (.slice qa qn qc) (.slice qd qm qe) _ Kp.out Kq.out (Ty.at_more Hp.out mC) (Ty.at_more Hq.out mC)).mono ?_); rintro e w3 ⟨rfl, hb3⟩; have HX3 := More.trans HX (show More _ w3 from mC); have HB3 := HB _ HX3; have hz3 := More.size HX3; (try simp at hz3); have hb3 := hb3; rw [C.out]))
    refine bodyPost_ret (v := .agg #[.bool p.1.1, .slice pa pn pc, .slice pd pm pe]) ?_ rfl ?_
    · simp [results, Tryz.results149, go_sem, *]
    · exact ⟨_, _, rfl, mC2, raw_fr Kp.out Sp.out (RatAt.set3 (RatAt.more Ap.out (mC : More w w3)) (HB _ HX3).2.2.1 (HB _ HX3).2.2.2.1 (HB _ HX3).2.2.2.2.1)⟩
  · rw [show minQ p q = q from by unfold minQ; rw [C.out, if_neg (by omega)]]
    have HX := More.refl (((w.alloc (.cells #[.bool p.1.1, .slice pa pn pc, .slice pd pm pe] 30)).alloc (.cells #[.bool q.1.1, .slice qa qn qc, .slice qd qm qe] 30)).alloc (.cells #[.bool false, .slice none 0 0, .slice none 0 0] 30))
    have HC := fun (w' : World) (h : Turns [w.heap.size + 1 + 1] (((w.alloc (.cells #[.bool p.1.1, .slice pa pn pc, .slice pd pm pe] 30)).alloc (.cells #[.bool q.1.1, .slice qa qn qc, .slice qd qm qe] 30)).alloc (.cells #[.bool false, .slice none 0 0, .slice none 0 0] 30)) w') => And.intro (bt3 (w.heap.size) (by simp) (More.un (More.un (More.refl _))) h (by simp <;> omega) (by simp <;> omega)) (bt3 (w.heap.size + 1) (by simp) (More.un (More.refl _)) h (by simp <;> omega) (by simp <;> omega))
    have HB := fun (w' : World) (h : More (((w.alloc (.cells #[.bool p.1.1, .slice pa pn pc, .slice pd pm pe] 30)).alloc (.cells #[.bool q.1.1, .slice qa qn qc, .slice qd qm qe] 30)).alloc (.cells #[.bool false, .slice none 0 0, .slice none 0 0] 30)) w') => And.intro (bx3 (w.heap.size) (by simp) (More.un (More.un h))) (And.intro (bx3 (w.heap.size + 1) (by simp) (More.un h)) (bx3 (w.heap.size + 1 + 1) (by simp) h))
    go_enter Tryz.func149, Tryz.ntmps149
    go_wp2_with (first | (go_at_call 59; (with_reducible refine (impl_isGood p.1.1 (frOf p) (.slice pa pn pc) (.slice pd pm pe) _ (RatAt.more Ap.out mC)).mono ?_); rintro e w1 ⟨rfl, hb1⟩; have HX1 := More.trans HX (show More _ w1 from mC); have HB1 := HB _ HX1; have hz1 := More.size HX1; (try simp at hz1); have hb1 := hb1; rw [Np.out]) | (go_at_call 59; (with_reducible refine (impl_isGood q.1.1 (frOf q) (.slice qa qn qc) (.slice qd qm qe) _ (RatAt.more Aq.out mC)).mono ?_); rintro e w2 ⟨rfl, hb2⟩; have HX2 := More.trans HX (show More _ w2 from mC); have HB2 := HB _ HX2; have hz2 := More.size HX2; (try simp at hz2); have hb2 := hb2; rw [Nq.out]) | (go_at_call 134; (with_reducible refine (impl_ratCmpX p p.1.1 (.slice pa pn pc) (.slice pd pm pe) q q.1.1 (.slice qa qn qc) (.slice qd qm qe) _ Kp.out Kq.out (Ty.at_more Hp.out mC) (Ty.at_more Hq.out mC)).mono ?_); rintro e w3 ⟨rfl, hb3⟩; have HX3 := More.trans HX (show More _ w3 from mC); have HB3 := HB _ HX3; have hz3 := More.size HX3; (try simp at hz3); have hb3 := hb3; rw [C.out]))
    refine bodyPost_ret (v := .agg #[.bool q.1.1, .slice qa qn qc, .slice qd qm qe]) ?_ rfl ?_
    · simp [results, Tryz.results149, go_sem, *]
    · exact ⟨_, _, rfl, mC2, raw_fr Kq.out Sq.out (RatAt.set3 (RatAt.more Aq.out (mC : More w w3)) (HB _ HX3).2.2.1 (HB _ HX3).2.2.2.1 (HB _ HX3).2.2.2.2.1)⟩
set_option maxRecDepth 8000 in
set_option maxHeartbeats 12800000 in
theorem impl_ratMax (cs1 : List Value) (p : QR) (cs2 : List Value) (q : QR) (w : World) (hv1 : tRat.at w cs1 p) (hw1 : wRat p ≤ 1048576) (hv2 : tRat.at w cs2 q) (hw2 : wRat q ≤ 1048576) (kp : ratOkB p = true) (kq : ratOkB q = true) :
    Calls Tryz.prog 150 #[.agg cs1.toArray, .agg cs2.toArray] w fun e w' => ∃ u v, e = .returned (.agg #[.bool (maxQ p q).1.1, u, v]) ∧ More w w' ∧ tRat.at w' [.bool (maxQ p q).1.1, u, v] (maxQ p q) := by
  obtain ⟨pa, pn, pc, pd, pm, pe, rfl⟩ := sh_Rat hv1
  have Hp := Lib.hid hv1; have Wp := Lib.hid hw1
  have HV1 : Hid (tRat.at w [.bool p.1.1, .slice pa pn pc, .slice pd pm pe] p) := Lib.hid hv1; have HW1 := Lib.hid hw1; clear hv1 hw1
  obtain ⟨qa, qn, qc, qd, qm, qe, rfl⟩ := sh_Rat hv2
  have Hq := Lib.hid hv2; have Wq := Lib.hid hw2
  have HV2 : Hid (tRat.at w [.bool q.1.1, .slice qa qn qc, .slice qd qm qe] q) := Lib.hid hv2; have HW2 := Lib.hid hw2; clear hv2 hw2
  have Kp := Lib.hid kp; have Kq := Lib.hid kq; clear kp kq
  show Calls Tryz.prog 150 #[.agg #[.bool p.1.1, .slice pa pn pc, .slice pd pm pe], .agg #[.bool q.1.1, .slice qa qn qc, .slice qd qm qe]] w _
  obtain ⟨c, hc⟩ : ∃ c, rCmp p q = c := ⟨_, rfl⟩
  have C := Lib.hid hc
  obtain ⟨s1, a1⟩ := frOf_at Hp.out Kp.out
  obtain ⟨s2, a2⟩ := frOf_at Hq.out Kq.out
  have Ap := Lib.hid a1; have Aq := Lib.hid a2; have Sp := Lib.hid s1; have Sq := Lib.hid s2; clear a1 a2 s1 s2
  have Vp := Lib.hid (frOf_vd p); have Vq := Lib.hid (frOf_vd q)
  have Np : Hid (decide ((frOf p).2 ≠ 0) = true) := Lib.hid (decide_eq_true (fr_ne Kp.out)); have Nq : Hid (decide ((frOf q).2 ≠ 0) = true) := Lib.hid (decide_eq_true (fr_ne Kq.out))
  clear hc
  rcases (show 0 ≤ c ∨ c < 0 by omega) with hc | hc
  · rw [show maxQ p q = p from by unfold maxQ; rw [C.out, if_pos (by omega)]]
    have HX := More.refl (((w.alloc (.cells #[.bool p.1.1, .slice pa pn pc, .slice pd pm pe] 30)).alloc (.cells #[.bool q.1.1, .slice qa qn qc, .slice qd qm qe] 30)).alloc (.cells #[.bool false, .slice none 0 0, .slice none 0 0] 30))
    have HC := fun (w' : World) (h : Turns [w.heap.size + 1 + 1] (((w.alloc (.cells #[.bool p.1.1, .slice pa pn pc, .slice pd pm pe] 30)).alloc (.cells #[.bool q.1.1, .slice qa qn qc, .slice qd qm qe] 30)).alloc (.cells #[.bool false, .slice none 0 0, .slice none 0 0] 30)) w') => And.intro (bt3 (w.heap.size) (by simp) (More.un (More.un (More.refl _))) h (by simp <;> omega) (by simp <;> omega)) (bt3 (w.heap.size + 1) (by simp) (More.un (More.refl _)) h (by simp <;> omega) (by simp <;> omega))
    have HB := fun (w' : World) (h : More (((w.alloc (.cells #[.bool p.1.1, .slice pa pn pc, .slice pd pm pe] 30)).alloc (.cells #[.bool q.1.1, .slice qa qn qc, .slice qd qm qe] 30)).alloc (.cells #[.bool false, .slice none 0 0, .slice none 0 0] 30)) w') => And.intro (bx3 (w.heap.size) (by simp) (More.un (More.un h))) (And.intro (bx3 (w.heap.size + 1) (by simp) (More.un h)) (bx3 (w.heap.size + 1 + 1) (by simp) h))
    go_enter Tryz.func150, Tryz.ntmps150
    go_wp2_with (first | (go_at_call 59; (with_reducible refine (impl_isGood p.1.1 (frOf p) (.slice pa pn pc) (.slice pd pm pe) _ (RatAt.more Ap.out mC)).mono ?_); rintro e w1 ⟨rfl, hb1⟩; have HX1 := More.trans HX (show More _ w1 from mC); have HB1 := HB _ HX1; have hz1 := More.size HX1; (try simp at hz1); have hb1 := hb1; rw [Np.out]) | (go_at_call 59; (with_reducible refine (impl_isGood q.1.1 (frOf q) (.slice qa qn qc) (.slice qd qm qe) _ (RatAt.more Aq.out mC)).mono ?_); rintro e w2 ⟨rfl, hb2⟩; have HX2 := More.trans HX (show More _ w2 from mC); have HB2 := HB _ HX2; have hz2 := More.size HX2; (try simp at hz2); have hb2 := hb2; rw [Nq.out]) | (go_at_call 134; (with_reducible refine (impl_ratCmpX p p.1.1 (.slice pa pn pc) (.slice pd pm pe) q q.1.1 (.slice qa qn qc) (.slice qd qm qe) _ Kp.out Kq.out (Ty.at_more Hp.out mC) (Ty.at_more Hq.out mC)).mono ?_); rintro e w3 ⟨rfl, hb3⟩; have HX3 := More.trans HX (show More _ w3 from mC); have HB3 := HB _ HX3; have hz3 := More.size HX3; (try simp at hz3); have hb3 := hb3; rw [C.out]))
    refine bodyPost_ret (v := .agg #[.bool p.1.1, .slice pa pn pc, .slice pd pm pe]) ?_ rfl ?_
    · simp [results, Tryz.results150, go_sem, *]
    · exact ⟨_, _, rfl, mC2, raw_fr Kp.out Sp.out (RatAt.set3 (RatAt.more Ap.out (mC : More w w3)) (HB _ HX3).2.2.1 (HB _ HX3).2.2.2.1 (HB _ HX3).2.2.2.2.1)⟩
  · rw [show maxQ p q = q from by unfold maxQ; rw [C.out, if_neg (by omega)]]
    have HX := More.refl (((w.alloc (.cells #[.bool p.1.1, .slice pa pn pc, .slice pd pm pe] 30)).alloc (.cells #[.bool q.1.1, .slice qa qn qc, .slice qd qm qe] 30)).alloc (.cells #[.bool false, .slice none 0 0, .slice none 0 0] 30))
    have HC := fun (w' : World) (h : Turns [w.heap.size + 1 + 1] (((w.alloc (.cells #[.bool p.1.1, .slice pa pn pc, .slice pd pm pe] 30)).alloc (.cells #[.bool q.1.1, .slice qa qn qc, .slice qd qm qe] 30)).alloc (.cells #[.bool false, .slice none 0 0, .slice none 0 0] 30)) w') => And.intro (bt3 (w.heap.size) (by simp) (More.un (More.un (More.refl _))) h (by simp <;> omega) (by simp <;> omega)) (bt3 (w.heap.size + 1) (by simp) (More.un (More.refl _)) h (by simp <;> omega) (by simp <;> omega))
    have HB := fun (w' : World) (h : More (((w.alloc (.cells #[.bool p.1.1, .slice pa pn pc, .slice pd pm pe] 30)).alloc (.cells #[.bool q.1.1, .slice qa qn qc, .slice qd qm qe] 30)).alloc (.cells #[.bool false, .slice none 0 0, .slice none 0 0] 30)) w') => And.intro (bx3 (w.heap.size) (by simp) (More.un (More.un h))) (And.intro (bx3 (w.heap.size + 1) (by simp) (More.un h)) (bx3 (w.heap.size + 1 + 1) (by simp) h))
    go_enter Tryz.func150, Tryz.ntmps150
    go_wp2_with (first | (go_at_call 59; (with_reducible refine (impl_isGood p.1.1 (frOf p) (.slice pa pn pc) (.slice pd pm pe) _ (RatAt.more Ap.out mC)).mono ?_); rintro e w1 ⟨rfl, hb1⟩; have HX1 := More.trans HX (show More _ w1 from mC); have HB1 := HB _ HX1; have hz1 := More.size HX1; (try simp at hz1); have hb1 := hb1; rw [Np.out]) | (go_at_call 59; (with_reducible refine (impl_isGood q.1.1 (frOf q) (.slice qa qn qc) (.slice qd qm qe) _ (RatAt.more Aq.out mC)).mono ?_); rintro e w2 ⟨rfl, hb2⟩; have HX2 := More.trans HX (show More _ w2 from mC); have HB2 := HB _ HX2; have hz2 := More.size HX2; (try simp at hz2); have hb2 := hb2; rw [Nq.out]) | (go_at_call 134; (with_reducible refine (impl_ratCmpX p p.1.1 (.slice pa pn pc) (.slice pd pm pe) q q.1.1 (.slice qa qn qc) (.slice qd qm qe) _ Kp.out Kq.out (Ty.at_more Hp.out mC) (Ty.at_more Hq.out mC)).mono ?_); rintro e w3 ⟨rfl, hb3⟩; have HX3 := More.trans HX (show More _ w3 from mC); have HB3 := HB _ HX3; have hz3 := More.size HX3; (try simp at hz3); have hb3 := hb3; rw [C.out]))
    refine bodyPost_ret (v := .agg #[.bool q.1.1, .slice qa qn qc, .slice qd qm qe]) ?_ rfl ?_
    · simp [results, Tryz.results150, go_sem, *]
    · exact ⟨_, _, rfl, mC2, raw_fr Kq.out Sq.out (RatAt.set3 (RatAt.more Aq.out (mC : More w w3)) (HB _ HX3).2.2.1 (HB _ HX3).2.2.2.1 (HB _ HX3).2.2.2.2.1)⟩
set_option maxRecDepth 8000 in
set_option maxHeartbeats 12800000 in
theorem spec_RatMin (cs1 : List Value) (p : QR) (cs2 : List Value) (q : QR) (w : World) (hv1 : tRat.at w cs1 p) (hw1 : wRat p ≤ 1048576) (hv2 : tRat.at w cs2 q) (hw2 : wRat q ≤ 1048576) (kp : ratOkB p = true) (kq : ratOkB q = true) :
    Calls Tryz.prog 85 #[.agg cs1.toArray, .agg cs2.toArray] w fun e w' => ∃ u v, e = .returned (.agg #[.bool (minQ p q).1.1, u, v]) ∧ More w w' ∧ tRat.at w' [.bool (minQ p q).1.1, u, v] (minQ p q) := by
  obtain ⟨pa, pn, pc, pd, pm, pe, rfl⟩ := sh_Rat hv1
  have Hp := Lib.hid hv1; have Wp := Lib.hid hw1
  have HV1 : Hid (tRat.at w [.bool p.1.1, .slice pa pn pc, .slice pd pm pe] p) := Lib.hid hv1; have HW1 := Lib.hid hw1; clear hv1 hw1
  obtain ⟨qa, qn, qc, qd, qm, qe, rfl⟩ := sh_Rat hv2
  have Hq := Lib.hid hv2; have Wq := Lib.hid hw2
  have HV2 : Hid (tRat.at w [.bool q.1.1, .slice qa qn qc, .slice qd qm qe] q) := Lib.hid hv2; have HW2 := Lib.hid hw2; clear hv2 hw2
  have Kp := Lib.hid kp; have Kq := Lib.hid kq; clear kp kq
  show Calls Tryz.prog 85 #[.agg #[.bool p.1.1, .slice pa pn pc, .slice pd pm pe], .agg #[.bool q.1.1, .slice qa qn qc, .slice qd qm qe]] w _
  obtain ⟨c, hc⟩ : ∃ c, rCmp p q = c := ⟨_, rfl⟩
  have C := Lib.hid hc
  obtain ⟨s1, a1⟩ := frOf_at Hp.out Kp.out
  obtain ⟨s2, a2⟩ := frOf_at Hq.out Kq.out
  have Ap := Lib.hid a1; have Aq := Lib.hid a2; have Sp := Lib.hid s1; have Sq := Lib.hid s2; clear a1 a2 s1 s2
  have Vp := Lib.hid (frOf_vd p); have Vq := Lib.hid (frOf_vd q)
  have Np : Hid (decide ((frOf p).2 ≠ 0) = true) := Lib.hid (decide_eq_true (fr_ne Kp.out)); have Nq : Hid (decide ((frOf q).2 ≠ 0) = true) := Lib.hid (decide_eq_true (fr_ne Kq.out))
  have CC : Hid (cmpI ((frOf p).1 * ((frOf q).2 : Int)) ((frOf q).1 * ((frOf p).2 : Int)) = c) := Lib.hid (by rw [← hc]; unfold rCmp frCmp; rw [if_neg (fun h => h.elim (fr_ne Kp.out) (fr_ne Kq.out))])
  clear hc
  rcases (show c ≤ 0 ∨ 0 < c by omega) with hc | hc
  · rw [show minQ p q = p from by unfold minQ; rw [C.out, if_pos (by omega)]]
    have HX := More.refl (((w.alloc (.cells #[.bool p.1.1, .slice pa pn pc, .slice pd pm pe] 30)).alloc (.cells #[.bool q.1.1, .slice qa qn qc, .slice qd qm qe] 30)).alloc (.cells #[.bool false, .slice none 0 0, .slice none 0 0] 30))
    have HC := fun (w' : World) (h : Turns [w.heap.size + 1 + 1] (((w.alloc (.cells #[.bool p.1.1, .slice pa pn pc, .slice pd pm pe] 30)).alloc (.cells #[.bool q.1.1, .slice qa qn qc, .slice qd qm qe] 30)).alloc (.cells #[.bool false, .slice none 0 0, .slice none 0 0] 30)) w') => And.intro (bt3 (w.heap.size) (by simp) (More.un (More.un (More.refl _))) h (by simp <;> omega) (by simp <;> omega)) (bt3 (w.heap.size + 1) (by simp) (More.un (More.refl _)) h (by simp <;> omega) (by simp <;> omega))
    have HB := fun (w' : World) (h : More (((w.alloc (.cells #[.bool p.1.1, .slice pa pn pc, .slice pd pm pe] 30)).alloc (.cells #[.bool q.1.1, .slice qa qn qc, .slice qd qm qe] 30)).alloc (.cells #[.bool false, .slice none 0 0, .slice none 0 0] 30)) w') => And.intro (bx3 (w.heap.size) (by simp) (More.un (More.un h))) (And.intro (bx3 (w.heap.size + 1) (by simp) (More.un h)) (bx3 (w.heap.size + 1 + 1) (by simp) h))
    go_enter Tryz.func85, Tryz.ntmps85
    go_wp2_with (first | (go_at_call 119; (with_reducible refine (spec_RatOk p.1.1 (.slice pa pn pc) (.slice pd pm pe) p _ (Ty.at_more Hp.out mC) Wp.out).mono ?_); rintro e w1 ⟨rfl, hb1⟩; have HX1 := More.trans HX (show More _ w1 from mC); have HB1 := HB _ HX1; have hz1 := More.size HX1; (try simp at hz1); have hb1 := hb1; rw [Kp.out]) | (go_at_call 119; (with_reducible refine (spec_RatOk q.1.1 (.slice qa qn qc) (.slice qd qm qe) q _ (Ty.at_more Hq.out mC) Wq.out).mono ?_); rintro e w2 ⟨rfl, hb2⟩; have HX2 := More.trans HX (show More _ w2 from mC); have HB2 := HB _ HX2; have hz2 := More.size HX2; (try simp at hz2); have hb2 := hb2; rw [Kq.out]) | (go_at_call 120; (with_reducible refine (spec_l04CmpB (frOf p) (frOf q) p.1.1 q.1.1 (.slice pa pn pc) (.slice pd pm pe) (.slice qa qn qc) (.slice qd qm qe) _ Sp.out Sq.out (RatAt.more Ap.out mC) Vp.out (RatAt.more Aq.out mC) Vq.out).mono ?_); rintro e w3 ⟨rfl, hb3⟩; rw [CC.out]; have HX3 := More.trans HX (show More _ w3 from mC); have HB3 := HB _ HX3; have hz3 := More.size HX3; (try simp at hz3); have hb3 := hb3) | (go_at_call 70; (with_reducible refine (spec_l04CopyB (frOf p) p.1.1 (.slice pa pn pc) (.slice pd pm pe) _ Sp.out (RatAt.more Ap.out mC) Vp.out).mono ?_); rintro e w4 ⟨x4, y4, rfl, hb4, f4⟩; obtain ⟨r4a, r4n, r4c, r4d, r4m, r4e, rfl, rfl⟩ := f4.at.sh; have F4 : Hid (RatFr (((w.alloc (.cells #[.bool p.1.1, .slice pa pn pc, .slice pd pm pe] 30)).alloc (.cells #[.bool q.1.1, .slice qa qn qc, .slice qd qm qe] 30)).alloc (.cells #[.bool false, .slice none 0 0, .slice none 0 0] 30)).heap.size w4 (frOf p) _ _) := Lib.hid (RatFr.mono f4 (More.size mC)); have A4_ : Hid (RatAt w4 (frOf p) _ _) := Lib.hid f4.at; clear f4; have HX4 := More.trans HX (show More _ w4 from mC); have HB4 := HB _ HX4; have hz4 := More.size HX4; (try simp at hz4); have hb4 := hb4))
    refine bodyPost_ret (v := .agg #[.bool p.1.1, .slice r4a r4n r4c, .slice r4d r4m r4e]) ?_ rfl ?_
    · simp [results, Tryz.results85, go_sem, *]
      exact Sp.out
    · exact ⟨_, _, rfl, mC2, raw_fr Kp.out Sp.out (RatAt.set3 A4_.out (HB _ HX4).2.2.1 (HB _ HX4).2.2.2.1 (HB _ HX4).2.2.2.2.1)⟩
  · rw [show minQ p q = q from by unfold minQ; rw [C.out, if_neg (by omega)]]
    have HX := More.refl (((w.alloc (.cells #[.bool p.1.1, .slice pa pn pc, .slice pd pm pe] 30)).alloc (.cells #[.bool q.1.1, .slice qa qn qc, .slice qd qm qe] 30)).alloc (.cells #[.bool false, .slice none 0 0, .slice none 0 0] 30))
    have HC := fun (w' : World) (h : Turns [w.heap.size + 1 + 1] (((w.alloc (.cells #[.bool p.1.1, .slice pa pn pc, .slice pd pm pe] 30)).alloc (.cells #[.bool q.1.1, .slice qa qn qc, .slice qd qm qe] 30)).alloc (.cells #[.bool false, .slice none 0 0, .slice none 0 0] 30)) w') => And.intro (bt3 (w.heap.size) (by simp) (More.un (More.un (More.refl _))) h (by simp <;> omega) (by simp <;> omega)) (bt3 (w.heap.size + 1) (by simp) (More.un (More.refl _)) h (by simp <;> omega) (by simp <;> omega))
    have HB := fun (w' : World) (h : More (((w.alloc (.cells #[.bool p.1.1, .slice pa pn pc, .slice pd pm pe] 30)).alloc (.cells #[.bool q.1.1, .slice qa qn qc, .slice qd qm qe] 30)).alloc (.cells #[.bool false, .slice none 0 0, .slice none 0 0] 30)) w') => And.intro (bx3 (w.heap.size) (by simp) (More.un (More.un h))) (And.intro (bx3 (w.heap.size + 1) (by simp) (More.un h)) (bx3 (w.heap.size + 1 + 1) (by simp) h))
    go_enter Tryz.func85, Tryz.ntmps85
    go_wp2_with (first | (go_at_call 119; (with_reducible refine (spec_RatOk p.1.1 (.slice pa pn pc) (.slice pd pm pe) p _ (Ty.at_more Hp.out mC) Wp.out).mono ?_); rintro e w1 ⟨rfl, hb1⟩; have HX1 := More.trans HX (show More _ w1 from mC); have HB1 := HB _ HX1; have hz1 := More.size HX1; (try simp at hz1); have hb1 := hb1; rw [Kp.out]) | (go_at_call 119; (with_reducible refine (spec_RatOk q.1.1 (.slice qa qn qc) (.slice qd qm qe) q _ (Ty.at_more Hq.out mC) Wq.out).mono ?_); rintro e w2 ⟨rfl, hb2⟩; have HX2 := More.trans HX (show More _ w2 from mC); have HB2 := HB _ HX2; have hz2 := More.size HX2; (try simp at hz2); have hb2 := hb2; rw [Kq.out]) | (go_at_call 120; (with_reducible refine (spec_l04CmpB (frOf p) (frOf q) p.1.1 q.1.1 (.slice pa pn pc) (.slice pd pm pe) (.slice qa qn qc) (.slice qd qm qe) _ Sp.out Sq.out (RatAt.more Ap.out mC) Vp.out (RatAt.more Aq.out mC) Vq.out).mono ?_); rintro e w3 ⟨rfl, hb3⟩; rw [CC.out]; have HX3 := More.trans HX (show More _ w3 from mC); have HB3 := HB _ HX3; have hz3 := More.size HX3; (try simp at hz3); have hb3 := hb3) | (go_at_call 70; (with_reducible refine (spec_l04CopyB (frOf q) q.1.1 (.slice qa qn qc) (.slice qd qm qe) _ Sq.out (RatAt.more Aq.out mC) Vq.out).mono ?_); rintro e w4 ⟨x4, y4, rfl, hb4, f4⟩; obtain ⟨r4a, r4n, r4c, r4d, r4m, r4e, rfl, rfl⟩ := f4.at.sh; have F4 : Hid (RatFr (((w.alloc (.cells #[.bool p.1.1, .slice pa pn pc, .slice pd pm pe] 30)).alloc (.cells #[.bool q.1.1, .slice qa qn qc, .slice qd qm qe] 30)).alloc (.cells #[.bool false, .slice none 0 0, .slice none 0 0] 30)).heap.size w4 (frOf q) _ _) := Lib.hid (RatFr.mono f4 (More.size mC)); have A4_ : Hid (RatAt w4 (frOf q) _ _) := Lib.hid f4.at; clear f4; have HX4 := More.trans HX (show More _ w4 from mC); have HB4 := HB _ HX4; have hz4 := More.size HX4; (try simp at hz4); have hb4 := hb4))
    refine bodyPost_ret (v := .agg #[.bool q.1.1, .slice r4a r4n r4c, .slice r4d r4m r4e]) ?_ rfl ?_
    · simp [results, Tryz.results85, go_sem, *]
      exact Sq.out
    · exact ⟨_, _, rfl, mC2, raw_fr Kq.out Sq.out (RatAt.set3 A4_.out (HB _ HX4).2.2.1 (HB _ HX4).2.2.2.1 (HB _ HX4).2.2.2.2.1)⟩
set_option maxRecDepth 8000 in
set_option maxHeartbeats 12800000 in
theorem spec_RatMax (cs1 : List Value) (p : QR) (cs2 : List Value) (q : QR) (w : World) (hv1 : tRat.at w cs1 p) (hw1 : wRat p ≤ 1048576) (hv2 : tRat.at w cs2 q) (hw2 : wRat q ≤ 1048576) (kp : ratOkB p = true) (kq : ratOkB q = true) :
    Calls Tryz.prog 86 #[.agg cs1.toArray, .agg cs2.toArray] w fun e w' => ∃ u v, e = .returned (.agg #[.bool (maxQ p q).1.1, u, v]) ∧ More w w' ∧ tRat.at w' [.bool (maxQ p q).1.1, u, v] (maxQ p q) := by
  obtain ⟨pa, pn, pc, pd, pm, pe, rfl⟩ := sh_Rat hv1
  have Hp := Lib.hid hv1; have Wp := Lib.hid hw1
  have HV1 : Hid (tRat.at w [.bool p.1.1, .slice pa pn pc, .slice pd pm pe] p) := Lib.hid hv1; have HW1 := Lib.hid hw1; clear hv1 hw1
  obtain ⟨qa, qn, qc, qd, qm, qe, rfl⟩ := sh_Rat hv2
  have Hq := Lib.hid hv2; have Wq := Lib.hid hw2
  have HV2 : Hid (tRat.at w [.bool q.1.1, .slice qa qn qc, .slice qd qm qe] q) := Lib.hid hv2; have HW2 := Lib.hid hw2; clear hv2 hw2
  have Kp := Lib.hid kp; have Kq := Lib.hid kq; clear kp kq
  show Calls Tryz.prog 86 #[.agg #[.bool p.1.1, .slice pa pn pc, .slice pd pm pe], .agg #[.bool q.1.1, .slice qa qn qc, .slice qd qm qe]] w _
  obtain ⟨c, hc⟩ : ∃ c, rCmp p q = c := ⟨_, rfl⟩
  have C := Lib.hid hc
  obtain ⟨s1, a1⟩ := frOf_at Hp.out Kp.out
  obtain ⟨s2, a2⟩ := frOf_at Hq.out Kq.out
  have Ap := Lib.hid a1; have Aq := Lib.hid a2; have Sp := Lib.hid s1; have Sq := Lib.hid s2; clear a1 a2 s1 s2
  have Vp := Lib.hid (frOf_vd p); have Vq := Lib.hid (frOf_vd q)
  have Np : Hid (decide ((frOf p).2 ≠ 0) = true) := Lib.hid (decide_eq_true (fr_ne Kp.out)); have Nq : Hid (decide ((frOf q).2 ≠ 0) = true) := Lib.hid (decide_eq_true (fr_ne Kq.out))
  have CC : Hid (cmpI ((frOf p).1 * ((frOf q).2 : Int)) ((frOf q).1 * ((frOf p).2 : Int)) = c) := Lib.hid (by rw [← hc]; unfold rCmp frCmp; rw [if_neg (fun h => h.elim (fr_ne Kp.out) (fr_ne Kq.out))])
  clear hc
  rcases (show 0 ≤ c ∨ c < 0 by omega) with hc | hc
  · rw [show maxQ p q = p from by unfold maxQ; rw [C.out, if_pos (by omega)]]
    have HX := More.refl (((w.alloc (.cells #[.bool p.1.1, .slice pa pn pc, .slice pd pm pe] 30)).alloc (.cells #[.bool q.1.1, .slice qa qn qc, .slice qd qm qe] 30)).alloc (.cells #[.bool false, .slice none 0 0, .slice none 0 0] 30))
    have HC := fun (w' : World) (h : Turns [w.heap.size + 1 + 1] (((w.alloc (.cells #[.bool p.1.1, .slice pa pn pc, .slice pd pm pe] 30)).alloc (.cells #[.bool q.1.1, .slice qa qn qc, .slice qd qm qe] 30)).alloc (.cells #[.bool false, .slice none 0 0, .slice none 0 0] 30)) w') => And.intro (bt3 (w.heap.size) (by simp) (More.un (More.un (More.refl _))) h (by simp <;> omega) (by simp <;> omega)) (bt3 (w.heap.size + 1) (by simp) (More.un (More.refl _)) h (by simp <;> omega) (by simp <;> omega))
    have HB := fun (w' : World) (h : More (((w.alloc (.cells #[.bool p.1.1, .slice pa pn pc, .slice pd pm pe] 30)).alloc (.cells #[.bool q.1.1, .slice qa qn qc, .slice qd qm qe] 30)).alloc (.cells #[.bool false, .slice none 0 0, .slice none 0 0] 30)) w') => And.intro (bx3 (w.heap.size) (by simp) (More.un (More.un h))) (And.intro (bx3 (w.heap.size + 1) (by simp) (More.un h)) (bx3 (w.heap.size + 1 + 1) (by simp) h))
    go_enter Tryz.func86, Tryz.ntmps86
    go_wp2_with (first | (go_at_call 119; (with_reducible refine (spec_RatOk p.1.1 (.slice pa pn pc) (.slice pd pm pe) p _ (Ty.at_more Hp.out mC) Wp.out).mono ?_); rintro e w1 ⟨rfl, hb1⟩; have HX1 := More.trans HX (show More _ w1 from mC); have HB1 := HB _ HX1; have hz1 := More.size HX1; (try simp at hz1); have hb1 := hb1; rw [Kp.out]) | (go_at_call 119; (with_reducible refine (spec_RatOk q.1.1 (.slice qa qn qc) (.slice qd qm qe) q _ (Ty.at_more Hq.out mC) Wq.out).mono ?_); rintro e w2 ⟨rfl, hb2⟩; have HX2 := More.trans HX (show More _ w2 from mC); have HB2 := HB _ HX2; have hz2 := More.size HX2; (try simp at hz2); have hb2 := hb2; rw [Kq.out]) | (go_at_call 120; (with_reducible refine (spec_l04CmpB (frOf p) (frOf q) p.1.1 q.1.1 (.slice pa pn pc) (.slice pd pm pe) (.slice qa qn qc) (.slice qd qm qe) _ Sp.out Sq.out (RatAt.more Ap.out mC) Vp.out (RatAt.more Aq.out mC) Vq.out).mono ?_); rintro e w3 ⟨rfl, hb3⟩; rw [CC.out]; have HX3 := More.trans HX (show More _ w3 from mC); have HB3 := HB _ HX3; have hz3 := More.size HX3; (try simp at hz3); have hb3 := hb3) | (go_at_call 70; (with_reducible refine (spec_l04CopyB (frOf p) p.1.1 (.slice pa pn pc) (.slice pd pm pe) _ Sp.out (RatAt.more Ap.out mC) Vp.out).mono ?_); rintro e w4 ⟨x4, y4, rfl, hb4, f4⟩; obtain ⟨r4a, r4n, r4c, r4d, r4m, r4e, rfl, rfl⟩ := f4.at.sh; have F4 : Hid (RatFr (((w.alloc (.cells #[.bool p.1.1, .slice pa pn pc, .slice pd pm pe] 30)).alloc (.cells #[.bool q.1.1, .slice qa qn qc, .slice qd qm qe] 30)).alloc (.cells #[.bool false, .slice none 0 0, .slice none 0 0] 30)).heap.size w4 (frOf p) _ _) := Lib.hid (RatFr.mono f4 (More.size mC)); have A4_ : Hid (RatAt w4 (frOf p) _ _) := Lib.hid f4.at; clear f4; have HX4 := More.trans HX (show More _ w4 from mC); have HB4 := HB _ HX4; have hz4 := More.size HX4; (try simp at hz4); have hb4 := hb4))
    refine bodyPost_ret (v := .agg #[.bool p.1.1, .slice r4a r4n r4c, .slice r4d r4m r4e]) ?_ rfl ?_
    · simp [results, Tryz.results86, go_sem, *]
      exact Sp.out
    · exact ⟨_, _, rfl, mC2, raw_fr Kp.out Sp.out (RatAt.set3 A4_.out (HB _ HX4).2.2.1 (HB _ HX4).2.2.2.1 (HB _ HX4).2.2.2.2.1)⟩
  · rw [show maxQ p q = q from by unfold maxQ; rw [C.out, if_neg (by omega)]]
    have HX := More.refl (((w.alloc (.cells #[.bool p.1.1, .slice pa pn pc, .slice pd pm pe] 30)).alloc (.cells #[.bool q.1.1, .slice qa qn qc, .slice qd qm qe] 30)).alloc (.cells #[.bool false, .slice none 0 0, .slice none 0 0] 30))
    have HC := fun (w' : World) (h : Turns [w.heap.size + 1 + 1] (((w.alloc (.cells #[.bool p.1.1, .slice pa pn pc, .slice pd pm pe] 30)).alloc (.cells #[.bool q.1.1, .slice qa qn qc, .slice qd qm qe] 30)).alloc (.cells #[.bool false, .slice none 0 0, .slice none 0 0] 30)) w') => And.intro (bt3 (w.heap.size) (by simp) (More.un (More.un (More.refl _))) h (by simp <;> omega) (by simp <;> omega)) (bt3 (w.heap.size + 1) (by simp) (More.un (More.refl _)) h (by simp <;> omega) (by simp <;> omega))
    have HB := fun (w' : World) (h : More (((w.alloc (.cells #[.bool p.1.1, .slice pa pn pc, .slice pd pm pe] 30)).alloc (.cells #[.bool q.1.1, .slice qa qn qc, .slice qd qm qe] 30)).alloc (.cells #[.bool false, .slice none 0 0, .slice none 0 0] 30)) w') => And.intro (bx3 (w.heap.size) (by simp) (More.un (More.un h))) (And.intro (bx3 (w.heap.size + 1) (by simp) (More.un h)) (bx3 (w.heap.size + 1 + 1) (by simp) h))
    go_enter Tryz.func86, Tryz.ntmps86
    go_wp2_with (first | (go_at_call 119; (with_reducible refine (spec_RatOk p.1.1 (.slice pa pn pc) (.slice pd pm pe) p _ (Ty.at_more Hp.out mC) Wp.out).mono ?_); rintro e w1 ⟨rfl, hb1⟩; have HX1 := More.trans HX (show More _ w1 from mC); have HB1 := HB _ HX1; have hz1 := More.size HX1; (try simp at hz1); have hb1 := hb1; rw [Kp.out]) | (go_at_call 119; (with_reducible refine (spec_RatOk q.1.1 (.slice qa qn qc) (.slice qd qm qe) q _ (Ty.at_more Hq.out mC) Wq.out).mono ?_); rintro e w2 ⟨rfl, hb2⟩; have HX2 := More.trans HX (show More _ w2 from mC); have HB2 := HB _ HX2; have hz2 := More.size HX2; (try simp at hz2); have hb2 := hb2; rw [Kq.out]) | (go_at_call 120; (with_reducible refine (spec_l04CmpB (frOf p) (frOf q) p.1.1 q.1.1 (.slice pa pn pc) (.slice pd pm pe) (.slice qa qn qc) (.slice qd qm qe) _ Sp.out Sq.out (RatAt.more Ap.out mC) Vp.out (RatAt.more Aq.out mC) Vq.out).mono ?_); rintro e w3 ⟨rfl, hb3⟩; rw [CC.out]; have HX3 := More.trans HX (show More _ w3 from mC); have HB3 := HB _ HX3; have hz3 := More.size HX3; (try simp at hz3); have hb3 := hb3) | (go_at_call 70; (with_reducible refine (spec_l04CopyB (frOf q) q.1.1 (.slice qa qn qc) (.slice qd qm qe) _ Sq.out (RatAt.more Aq.out mC) Vq.out).mono ?_); rintro e w4 ⟨x4, y4, rfl, hb4, f4⟩; obtain ⟨r4a, r4n, r4c, r4d, r4m, r4e, rfl, rfl⟩ := f4.at.sh; have F4 : Hid (RatFr (((w.alloc (.cells #[.bool p.1.1, .slice pa pn pc, .slice pd pm pe] 30)).alloc (.cells #[.bool q.1.1, .slice qa qn qc, .slice qd qm qe] 30)).alloc (.cells #[.bool false, .slice none 0 0, .slice none 0 0] 30)).heap.size w4 (frOf q) _ _) := Lib.hid (RatFr.mono f4 (More.size mC)); have A4_ : Hid (RatAt w4 (frOf q) _ _) := Lib.hid f4.at; clear f4; have HX4 := More.trans HX (show More _ w4 from mC); have HB4 := HB _ HX4; have hz4 := More.size HX4; (try simp at hz4); have hb4 := hb4))
    refine bodyPost_ret (v := .agg #[.bool q.1.1, .slice r4a r4n r4c, .slice r4d r4m r4e]) ?_ rfl ?_
    · simp [results, Tryz.results86, go_sem, *]
      exact Sq.out
    · exact ⟨_, _, rfl, mC2, raw_fr Kq.out Sq.out (RatAt.set3 A4_.out (HB _ HX4).2.2.1 (HB _ HX4).2.2.2.1 (HB _ HX4).2.2.2.2.1)⟩
end Go.Proofs.YteihkhniibncnaaGreat
