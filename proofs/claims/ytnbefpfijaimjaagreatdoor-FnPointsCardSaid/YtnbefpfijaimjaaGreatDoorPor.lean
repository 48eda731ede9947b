/- Points that are valid or nothing; half of a fraction. -/
import Derived.Test.YtnbefpfijaimjaaGreatDoorGPnt
import Derived.Test.YtnbefpfijaimjaaGreatDoorRa2
import Derived.Test.YtnbefpfijaimjaaGreatDoorGSra
import Derived.Test.YtnbefpfijaimjaaGreatDoorCsd
namespace Go.Proofs.YtnbefpfijaimjaaGreatDoor
open Go.RowKit
noncomputable def frHalf (f : Fr) : Fr := frMul f (frQ 1 2)
abbrev zeroQP : QP := (((false, []), []), ((false, []), []))
theorem ratOk_encP {f : Fr} (h : Vd f) : ratOkB (encR f) = decide (f.2 ≠ 0) := by
  rcases h with rfl | h
  · rw [ratOk_zero]; rfl
  · rw [ratOk_iff.2 ⟨f, h, rfl⟩, decide_eq_true h.1]
theorem pt_at2 {w : World} {c1 c2 : List Value} {x y : QR} (h1 : tRat.at w c1 x) (h2 : tRat.at w c2 y) : tPoint.at w (c1 ++ c2) (x, y) := prod_at h1 h2
set_option maxRecDepth 4000 in
set_option maxHeartbeats 6400000 in
theorem impl_ratHalf (f : Fr) (up vp : Value) (w : World) (hp : RatAt w f up vp) (kp : Vd f) :
    Calls Tryz.prog 72 #[.agg #[.bool (decide (f.1 < 0)), up, vp]] w fun e w' => ∃ x y, e = .returned (.agg #[.bool (decide ((frHalf f).1 < 0)), x, y]) ∧ More w w' ∧ RatFr w.heap.size w' (frHalf f) x y := by
  have KV := Lib.hid kp
  obtain ⟨pa, pn, pc, pd, pm, pe, rfl, rfl, p1, p2⟩ := hp.shL
  have Hp1 := Lib.hid hp.1; have Hp2 := Lib.hid hp.2; have Hp := Lib.hid hp; have Lp1 := Lib.hid kp.sm1; have Lp2 := Lib.hid kp.sm2; have Np1 := Lib.hid p1; have Np2 := Lib.hid p2; clear hp p1 p2
  obtain ⟨s, zp⟩ : ∃ b, decide (f.1 < 0) = b := ⟨_, rfl⟩
  rw [zp]
  have Sp := Lib.hid zp; clear zp
  rw [show frHalf f = frMul f (frQ 1 2) from rfl]
  have I1 := Lib.hid (In64.small (n := 1) (by decide)); have I2 := Lib.hid (In64.small (n := 2) (by decide)); have I4 := Lib.hid (In64.small (n := 4) (by decide))
  have HX := More.refl ((w.alloc (.cells #[.bool s, .slice pa pn pc, .slice pd pm pe] 26)).alloc (.cells #[.bool false, .slice none 0 0, .slice none 0 0] 26))
  have HC := fun (w' : World) (h : Turns [w.heap.size + 1] ((w.alloc (.cells #[.bool s, .slice pa pn pc, .slice pd pm pe] 26)).alloc (.cells #[.bool false, .slice none 0 0, .slice none 0 0] 26)) w') => bt3 (w.heap.size) (by simp) (More.un (More.refl _)) h (by simp <;> omega) (by simp <;> omega)
  have HB := fun (w' : World) (h : More ((w.alloc (.cells #[.bool s, .slice pa pn pc, .slice pd pm pe] 26)).alloc (.cells #[.bool false, .slice none 0 0, .slice none 0 0] 26)) w') => And.intro (bx3 (w.heap.size) (by simp) (More.un h)) (bx3 (w.heap.size + 1) (by simp) h)
  go_enter Tryz.func72, Tryz.ntmps72
  go_wp2_with fail
  go_region_held3 (fun w' => Turns [w.heap.size + 1] ((w.alloc (.cells #[.bool s, .slice pa pn pc, .slice pd pm pe] 26)).alloc (.cells #[.bool false, .slice none 0 0, .slice none 0 0] 26)) w') (first | exact tC | exact mC2) (first | (go_at_call 103; (with_reducible refine (impl_RatOf 1 2 _ I1.out I2.out).mono ?_); rintro e w3 ⟨x3, y3, rfl, hb3, f3⟩; obtain ⟨r3a, r3n, r3c, r3d, r3m, r3e, rfl, rfl⟩ := f3.at.sh; have F3 : Hid (RatFr ((w.alloc (.cells #[.bool s, .slice pa pn pc, .slice pd pm pe] 26)).alloc (.cells #[.bool false, .slice none 0 0, .slice none 0 0] 26)).heap.size w3 (frQ 1 2) _ _) := Lib.hid (RatFr.mono f3 (More.size mC)); have A3_ : Hid (RatAt w3 (frQ 1 2) _ _) := Lib.hid f3.at; clear f3; have HX3 := More.trans HX (show More _ w3 from mC); have HB3 := HB _ HX3; have hz3 := More.size HX3; (try simp at hz3); have hb3 := hb3) | (go_at_call 74; (with_reducible refine (impl_ratMulB f s (.slice pa pn pc) (.slice pd pm pe) (frQ 1 2) _ (.slice r3a r3n r3c) (.slice r3d r3m r3e) _ Sp.out rfl (RatAt.more Hp.out mC) KV.out (RatAt.more A3_.out mC) (frQ_vd _ _)).mono ?_); rintro e w4 ⟨x4, y4, rfl, hb4, f4⟩; obtain ⟨r4a, r4n, r4c, r4d, r4m, r4e, rfl, rfl⟩ := f4.at.sh; have F4 : Hid (RatFr ((w.alloc (.cells #[.bool s, .slice pa pn pc, .slice pd pm pe] 26)).alloc (.cells #[.bool false, .slice none 0 0, .slice none 0 0] 26)).heap.size w4 (frMul f (frQ 1 2)) _ _) := Lib.hid (RatFr.mono f4 (More.size mC)); have A4_ : Hid (RatAt w4 (frMul f (frQ 1 2)) _ _) := Lib.hid f4.at; clear f4; have HX4 := More.trans HX (show More _ w4 from mC); have HB4 := HB _ HX4; have hz4 := More.size HX4; (try simp at hz4); have hb4 := hb4))
  all_goals
    go_wp2_with fail
    refine bodyPost_ret (v := .agg #[.bool (decide ((frMul f (frQ 1 2)).1 < 0)), .slice r4a r4n r4c, .slice r4d r4m r4e]) ?_ rfl ?_
    · simp [results, Tryz.results72, go_sem, *]
    · exact ⟨_, _, rfl, mC2, (F4.out.turns (bs := [w.heap.size + 1]) tC (by simp)).mono (by simp; try omega)⟩
theorem impl_ratHalfB (f : Fr) (b : Bool) (up vp : Value)  (w : World) (hb : decide (f.1 < 0) = b) (hp : RatAt w f up vp) (kp : Vd f) :
    Calls Tryz.prog 72 #[.agg #[.bool b, up, vp]] w fun e w' => ∃ x y, e = .returned (.agg #[.bool (decide ((frHalf f).1 < 0)), x, y]) ∧ More w w' ∧ RatFr w.heap.size w' (frHalf f) x y := by
  subst hb
  exact impl_ratHalf f up vp w hp kp
set_option maxRecDepth 4000 in
set_option maxHeartbeats 3200000 in
theorem impl_isGoodPoint (f g : Fr) (b c : Bool) (u v u' v' : Value) (w : World) (ha : RatAt w f u v) (hb : RatAt w g u' v') :
    Calls Tryz.prog 102 #[.agg #[.bool b, u, v, .bool c, u', v']] w fun e w' => e = .returned (.bool (decide (f.2 ≠ 0) && decide (g.2 ≠ 0))) ∧ More w w' := by
  obtain ⟨pa, pn, pc, pd, pm, pe, rfl, rfl⟩ := ha.sh
  obtain ⟨qa, qn, qc, qd, qm, qe, rfl, rfl⟩ := hb.sh
  have Hp := Lib.hid ha; have Hq := Lib.hid hb; clear ha hb
  rcases Bool.eq_false_or_eq_true (decide (f.2 ≠ 0)) with kf | kf
  rotate_left
  · have KF := Lib.hid kf; clear kf
    rw [KF.out]
    have HX := More.refl (w.alloc (.cells #[.bool b, .slice pa pn pc, .slice pd pm pe, .bool c, .slice qa qn qc, .slice qd qm qe] 28))
    have HB := fun (w' : World) (h : More (w.alloc (.cells #[.bool b, .slice pa pn pc, .slice pd pm pe, .bool c, .slice qa qn qc, .slice qd qm qe] 28)) w') => bx6 (w.heap.size) (by simp) h
    have HC := fun (w' : World) (h : Turns [] _ w') => HB w' (Turns.more h)
    go_enter Tryz.func102, Tryz.ntmps102
    go_wp2_with (first | (go_at_call 104; (with_reducible refine (impl_isGood b f (.slice pa pn pc) (.slice pd pm pe) _ (RatAt.more Hp.out mC)).mono ?_); rintro e w1 ⟨rfl, hb1⟩; have HX1 := More.trans HX (show More _ w1 from mC); have HB1 := HB _ HX1; have hz1 := More.size HX1; (try simp at hz1); have hb1 := hb1; rw [KF.out]))
    go_ret
    exact ⟨rfl, mC⟩
  have KF := Lib.hid kf; clear kf
  rcases Bool.eq_false_or_eq_true (decide (g.2 ≠ 0)) with kg | kg
  all_goals
    have KG := Lib.hid kg; clear kg
    rw [KF.out, KG.out]
    have HX := More.refl (w.alloc (.cells #[.bool b, .slice pa pn pc, .slice pd pm pe, .bool c, .slice qa qn qc, .slice qd qm qe] 28))
    have HB := fun (w' : World) (h : More (w.alloc (.cells #[.bool b, .slice pa pn pc, .slice pd pm pe, .bool c, .slice qa qn qc, .slice qd qm qe] 28)) w') => bx6 (w.heap.size) (by simp) h
    have HC := fun (w' : World) (h : Turns [] _ w') => HB w' (Turns.more h)
    go_enter Tryz.func102, Tryz.ntmps102
    go_wp2_with (first | (go_at_call 104; (with_reducible refine (impl_isGood b f (.slice pa pn pc) (.slice pd pm pe) _ (RatAt.more Hp.out mC)).mono ?_); rintro e w1 ⟨rfl, hb1⟩; have HX1 := More.trans HX (show More _ w1 from mC); have HB1 := HB _ HX1; have hz1 := More.size HX1; (try simp at hz1); have hb1 := hb1; rw [KF.out]) | (go_at_call 104; (with_reducible refine (impl_isGood c g (.slice qa qn qc) (.slice qd qm qe) _ (RatAt.more Hq.out mC)).mono ?_); rintro e w2 ⟨rfl, hb2⟩; have HX2 := More.trans HX (show More _ w2 from mC); have HB2 := HB _ HX2; have hz2 := More.size HX2; (try simp at hz2); have hb2 := hb2; rw [KG.out]))
    go_ret
    exact ⟨rfl, mC⟩
set_option maxRecDepth 4000 in
set_option maxHeartbeats 3200000 in
theorem impl_pointOr_yes (f g : Fr) (b c : Bool) (u v u' v' : Value) (w : World) (ha : RatAt w f u v) (hb : RatAt w g u' v') (k : (decide (f.2 ≠ 0) && decide (g.2 ≠ 0)) = true) :
    Calls Tryz.prog 71 #[.agg #[.bool b, u, v, .bool c, u', v']] w fun e w' => e = .returned (.agg #[.bool b, u, v, .bool c, u', v']) ∧ More w w' := by
  obtain ⟨pa, pn, pc, pd, pm, pe, rfl, rfl⟩ := ha.sh
  obtain ⟨qa, qn, qc, qd, qm, qe, rfl, rfl⟩ := hb.sh
  have Hp := Lib.hid ha; have Hq := Lib.hid hb; clear ha hb
  have K := Lib.hid k; clear k
  have HX := More.refl ((w.alloc (.cells #[.bool b, .slice pa pn pc, .slice pd pm pe, .bool c, .slice qa qn qc, .slice qd qm qe] 28)).alloc (.cells #[.bool false, .slice none 0 0, .slice none 0 0, .bool false, .slice none 0 0, .slice none 0 0] 28))
  have HC := fun (w' : World) (h : Turns [w.heap.size + 1] ((w.alloc (.cells #[.bool b, .slice pa pn pc, .slice pd pm pe, .bool c, .slice qa qn qc, .slice qd qm qe] 28)).alloc (.cells #[.bool false, .slice none 0 0, .slice none 0 0, .bool false, .slice none 0 0, .slice none 0 0] 28)) w') => bt6 (w.heap.size) (by simp) (More.un (More.refl _)) h (by simp <;> omega) (by simp <;> omega)
  have HB := fun (w' : World) (h : More ((w.alloc (.cells #[.bool b, .slice pa pn pc, .slice pd pm pe, .bool c, .slice qa qn qc, .slice qd qm qe] 28)).alloc (.cells #[.bool false, .slice none 0 0, .slice none 0 0, .bool false, .slice none 0 0, .slice none 0 0] 28)) w') => And.intro (bx6 (w.heap.size) (by simp) (More.un h)) (bx6 (w.heap.size + 1) (by simp) h)
  go_enter Tryz.func71, Tryz.ntmps71
  go_wp2_with (first | (go_at_call 102; (with_reducible refine (impl_isGoodPoint f g b c _ _ _ _ _ (RatAt.more Hp.out mC) (RatAt.more Hq.out mC)).mono ?_); rintro e w1 ⟨rfl, hb1⟩; have HX1 := More.trans HX (show More _ w1 from mC); have HB1 := HB _ HX1; have hz1 := More.size HX1; (try simp at hz1); have hb1 := hb1; rw [K.out]))
  refine bodyPost_ret (v := .agg #[.bool b, .slice pa pn pc, .slice pd pm pe, .bool c, .slice qa qn qc, .slice qd qm qe]) ?_ rfl ?_
  · simp [results, Tryz.results71, go_sem, *]
  · exact ⟨rfl, mC2⟩
set_option maxRecDepth 4000 in
set_option maxHeartbeats 3200000 in
theorem impl_pointOr_no (f g : Fr) (b c : Bool) (u v u' v' : Value) (w : World) (ha : RatAt w f u v) (hb : RatAt w g u' v') (k : (decide (f.2 ≠ 0) && decide (g.2 ≠ 0)) = false) :
    Calls Tryz.prog 71 #[.agg #[.bool b, u, v, .bool c, u', v']] w fun e w' => e = .returned (.agg #[.bool false, .slice none 0 0, .slice none 0 0, .bool false, .slice none 0 0, .slice none 0 0]) ∧ More w w' := by
  obtain ⟨pa, pn, pc, pd, pm, pe, rfl, rfl⟩ := ha.sh
  obtain ⟨qa, qn, qc, qd, qm, qe, rfl, rfl⟩ := hb.sh
  have Hp := Lib.hid ha; have Hq := Lib.hid hb; clear ha hb
  have K := Lib.hid k; clear k
  have HX := More.refl ((w.alloc (.cells #[.bool b, .slice pa pn pc, .slice pd pm pe, .bool c, .slice qa qn qc, .slice qd qm qe] 28)).alloc (.cells #[.bool false, .slice none 0 0, .slice none 0 0, .bool false, .slice none 0 0, .slice none 0 0] 28))
  have HC := fun (w' : World) (h : Turns [w.heap.size + 1] ((w.alloc (.cells #[.bool b, .slice pa pn pc, .slice pd pm pe, .bool c, .slice qa qn qc, .slice qd qm qe] 28)).alloc (.cells #[.bool false, .slice none 0 0, .slice none 0 0, .bool false, .slice none 0 0, .slice none 0 0] 28)) w') => bt6 (w.heap.size) (by simp) (More.un (More.refl _)) h (by simp <;> omega) (by simp <;> omega)
  have HB := fun (w' : World) (h : More ((w.alloc (.cells #[.bool b, .slice pa pn pc, .slice pd pm pe, .bool c, .slice qa qn qc, .slice qd qm qe] 28)).alloc (.cells #[.bool false, .slice none 0 0, .slice none 0 0, .bool false, .slice none 0 0, .slice none 0 0] 28)) w') => And.intro (bx6 (w.heap.size) (by simp) (More.un h)) (bx6 (w.heap.size + 1) (by simp) h)
  go_enter Tryz.func71, Tryz.ntmps71
  go_wp2_with (first | (go_at_call 102; (with_reducible refine (impl_isGoodPoint f g b c _ _ _ _ _ (RatAt.more Hp.out mC) (RatAt.more Hq.out mC)).mono ?_); rintro e w1 ⟨rfl, hb1⟩; have HX1 := More.trans HX (show More _ w1 from mC); have HB1 := HB _ HX1; have hz1 := More.size HX1; (try simp at hz1); have hb1 := hb1; rw [K.out]))
  refine bodyPost_ret (v := .agg #[.bool false, .slice none 0 0, .slice none 0 0, .bool false, .slice none 0 0, .slice none 0 0]) ?_ rfl ?_
  · simp [results, Tryz.results71, go_sem, *]
  · exact ⟨rfl, mC2⟩
end Go.Proofs.YtnbefpfijaimjaaGreatDoor
