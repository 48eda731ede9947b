/- Fractions: the reference's quotient. -/
import Derived.Test.YteihkhniibncnaaGreatThn
import Derived.Test.YteihkhniibncnaaGreatGSra
namespace Go.Proofs.YteihkhniibncnaaGreat
open Go.RowKit
theorem frDiv_l {f g : Fr} (h : f = (0, 0)) : frDiv f g = (0, 0) := by unfold frDiv; rw [if_pos (.inl (by rw [h]))]
theorem frDiv_r {f g : Fr} (h : g = (0, 0)) : frDiv f g = (0, 0) := by unfold frDiv; rw [if_pos (.inr (.inl (by rw [h])))]
theorem frDiv_frL {f g : Fr} {b c : Bool} (hf : f.2 ≠ 0) (hg : g.2 ≠ 0) (hb : decide (f.1 < 0) = b) (hc : decide (g.1 < 0) = c) : frDiv f g = frL (!(b == c)) (f.1.natAbs * g.2) (f.2 * g.1.natAbs) := by
  subst hb
  subst hc
  unfold frDiv frL
  by_cases h : g.1 = 0
  · rw [if_pos (.inr (.inr h)), if_pos (by rw [h]; simp)]
  · rw [if_neg (fun k => k.elim hf (fun k => k.elim hg h)), if_neg (fun k => by
      rcases Nat.mul_eq_zero.1 k with k | k
      · exact hf k
      · exact h (Int.natAbs_eq_zero.1 k))]
    rfl
set_option maxRecDepth 8000 in
set_option maxHeartbeats 12800000 in
theorem spec_RatDiv (x : QR) (b : Bool) (up vp : Value) (y : QR) (c : Bool) (uq vq : Value) (w : World) (hp : tRat.at w [.bool b, up, vp] x) (lp : wRat x ≤ 1048576) (hq : tRat.at w [.bool c, uq, vq] y) (lq : wRat y ≤ 1048576) :
    Calls Tryz.prog 48 #[.agg #[.bool b, up, vp], .agg #[.bool c, uq, vq]] w fun e w' => ∃ u v, e = .returned (.agg #[.bool (decide ((frDiv (frOf x) (frOf y)).1 < 0)), u, v]) ∧ More w w' ∧ RatFr w.heap.size w' (frDiv (frOf x) (frOf y)) u v := by
  obtain ⟨-, hup, hvp⟩ := rat_split hp
  obtain ⟨pa, pn, pc, rfl⟩ := sh1 hup
  obtain ⟨pd, pm, pe, rfl⟩ := sh1 hvp
  have Hp := Lib.hid hp; have Wp := Lib.hid lp; clear hp lp hup hvp
  obtain ⟨-, huq, hvq⟩ := rat_split hq
  obtain ⟨qa, qn, qc, rfl⟩ := sh1 huq
  obtain ⟨qd, qm, qe, rfl⟩ := sh1 hvq
  have Hq := Lib.hid hq; have Wq := Lib.hid lq; clear hq lq huq hvq
  rcases Bool.eq_false_or_eq_true (ratOkB x) with kp | kp
  rotate_left
  · have Kp := Lib.hid kp
    have Ep := frOf_bad kp; clear kp
    rw [frDiv_l Ep]
    clear Ep
    show Calls _ _ _ _ (fun e w' => ∃ u v, e = .returned (.agg #[.bool false, u, v]) ∧ More w w' ∧ RatFr w.heap.size w' (0, 0) u v)
    have HX := More.refl (((w.alloc (.cells #[.bool b, .slice pa pn pc, .slice pd pm pe] 30)).alloc (.cells #[.bool c, .slice qa qn qc, .slice qd qm qe] 30)).alloc (.cells #[.bool false, .slice none 0 0, .slice none 0 0] 30))
    have HC := fun (w' : World) (h : Turns [w.heap.size + 1 + 1] (((w.alloc (.cells #[.bool b, .slice pa pn pc, .slice pd pm pe] 30)).alloc (.cells #[.bool c, .slice qa qn qc, .slice qd qm qe] 30)).alloc (.cells #[.bool false, .slice none 0 0, .slice none 0 0] 30)) w') => And.intro (bt3 (w.heap.size) (by simp) (More.un (More.un (More.refl _))) h (by simp <;> omega) (by simp <;> omega)) (bt3 (w.heap.size + 1) (by simp) (More.un (More.refl _)) h (by simp <;> omega) (by simp <;> omega))
    have HB := fun (w' : World) (h : More (((w.alloc (.cells #[.bool b, .slice pa pn pc, .slice pd pm pe] 30)).alloc (.cells #[.bool c, .slice qa qn qc, .slice qd qm qe] 30)).alloc (.cells #[.bool false, .slice none 0 0, .slice none 0 0] 30)) w') => And.intro (bx3 (w.heap.size) (by simp) (More.un (More.un h))) (And.intro (bx3 (w.heap.size + 1) (by simp) (More.un h)) (bx3 (w.heap.size + 1 + 1) (by simp) h))
    go_enter Tryz.func48, Tryz.ntmps48
    go_wp2_with (first | (go_at_call 119; (with_reducible refine (spec_RatOk b (.slice pa pn pc) (.slice pd pm pe) x _ (Ty.at_more Hp.out mC) Wp.out).mono ?_); rintro e w1 ⟨rfl, hb1⟩; have HX1 := More.trans HX (show More _ w1 from mC); have HB1 := HB _ HX1; have hz1 := More.size HX1; (try simp at hz1); have hb1 := hb1; rw [Kp.out]))
    refine bodyPost_ret (v := .agg #[.bool false, .slice none 0 0, .slice none 0 0]) ?_ rfl ?_
    · simp [results, Tryz.results48, go_sem, *]
    · exact ⟨_, _, rfl, mC2, RatFr.zero⟩
  have Kp := Lib.hid kp; clear kp
  rcases Bool.eq_false_or_eq_true (ratOkB y) with kq | kq
  rotate_left
  · have Kq := Lib.hid kq
    have Eq := frOf_bad kq; clear kq
    rw [frDiv_r Eq]
    clear Eq
    show Calls _ _ _ _ (fun e w' => ∃ u v, e = .returned (.agg #[.bool false, u, v]) ∧ More w w' ∧ RatFr w.heap.size w' (0, 0) u v)
    have HX := More.refl (((w.alloc (.cells #[.bool b, .slice pa pn pc, .slice pd pm pe] 30)).alloc (.cells #[.bool c, .slice qa qn qc, .slice qd qm qe] 30)).alloc (.cells #[.bool false, .slice none 0 0, .slice none 0 0] 30))
    have HC := fun (w' : World) (h : Turns [w.heap.size + 1 + 1] (((w.alloc (.cells #[.bool b, .slice pa pn pc, .slice pd pm pe] 30)).alloc (.cells #[.bool c, .slice qa qn qc, .slice qd qm qe] 30)).alloc (.cells #[.bool false, .slice none 0 0, .slice none 0 0] 30)) w') => And.intro (bt3 (w.heap.size) (by simp) (More.un (More.un (More.refl _))) h (by simp <;> omega) (by simp <;> omega)) (bt3 (w.heap.size + 1) (by simp) (More.un (More.refl _)) h (by simp <;> omega) (by simp <;> omega))
    have HB := fun (w' : World) (h : More (((w.alloc (.cells #[.bool b, .slice pa pn pc, .slice pd pm pe] 30)).alloc (.cells #[.bool c, .slice qa qn qc, .slice qd qm qe] 30)).alloc (.cells #[.bool false, .slice none 0 0, .slice none 0 0] 30)) w') => And.intro (bx3 (w.heap.size) (by simp) (More.un (More.un h))) (And.intro (bx3 (w.heap.size + 1) (by simp) (More.un h)) (bx3 (w.heap.size + 1 + 1) (by simp) h))
    go_enter Tryz.func48, Tryz.ntmps48
    go_wp2_with (first | (go_at_call 119; (with_reducible refine (spec_RatOk b (.slice pa pn pc) (.slice pd pm pe) x _ (Ty.at_more Hp.out mC) Wp.out).mono ?_); rintro e w1 ⟨rfl, hb1⟩; have HX1 := More.trans HX (show More _ w1 from mC); have HB1 := HB _ HX1; have hz1 := More.size HX1; (try simp at hz1); have hb1 := hb1; rw [Kp.out]) | (go_at_call 119; (with_reducible refine (spec_RatOk c (.slice qa qn qc) (.slice qd qm qe) y _ (Ty.at_more Hq.out mC) Wq.out).mono ?_); rintro e w2 ⟨rfl, hb2⟩; have HX2 := More.trans HX (show More _ w2 from mC); have HB2 := HB _ HX2; have hz2 := More.size HX2; (try simp at hz2); have hb2 := hb2; rw [Kq.out]))
    refine bodyPost_ret (v := .agg #[.bool false, .slice none 0 0, .slice none 0 0]) ?_ rfl ?_
    · simp [results, Tryz.results48, go_sem, *]
    · exact ⟨_, _, rfl, mC2, RatFr.zero⟩
  have Kq := Lib.hid kq; clear kq
  have nf := fr_ne Kp.out; have ng := fr_ne Kq.out
  have NF := Lib.hid nf; have NG := Lib.hid ng; clear nf ng
  obtain ⟨sp, ap⟩ := frOf_at Hp.out Kp.out; have Ap := Lib.hid ap; have Sp := Lib.hid sp; have Vp := Lib.hid (frOf_vd x); clear sp ap
  obtain ⟨sq, aq⟩ := frOf_at Hq.out Kq.out; have Aq := Lib.hid aq; have Sq := Lib.hid sq; have Vq := Lib.hid (frOf_vd y); clear sq aq
  have ED := frDiv_frL NF.out NG.out Sp.out Sq.out
  rw [ED]
  clear ED
  have Hp1 := Lib.hid Ap.out.1; have Hp2 := Lib.hid Ap.out.2; have Hq1 := Lib.hid Aq.out.1; have Hq2 := Lib.hid Aq.out.2; have Lp1 := Lib.hid Vp.out.sm1; have Lp2 := Lib.hid Vp.out.sm2; have Lq1 := Lib.hid Vq.out.sm1; have Lq2 := Lib.hid Vq.out.sm2
  have HX := More.refl (((w.alloc (.cells #[.bool b, .slice pa pn pc, .slice pd pm pe] 30)).alloc (.cells #[.bool c, .slice qa qn qc, .slice qd qm qe] 30)).alloc (.cells #[.bool false, .slice none 0 0, .slice none 0 0] 30))
  have HC := fun (w' : World) (h : Turns [w.heap.size + 1 + 1] (((w.alloc (.cells #[.bool b, .slice pa pn pc, .slice pd pm pe] 30)).alloc (.cells #[.bool c, .slice qa qn qc, .slice qd qm qe] 30)).alloc (.cells #[.bool false, .slice none 0 0, .slice none 0 0] 30)) w') => And.intro (bt3 (w.heap.size) (by simp) (More.un (More.un (More.refl _))) h (by simp <;> omega) (by simp <;> omega)) (bt3 (w.heap.size + 1) (by simp) (More.un (More.refl _)) h (by simp <;> omega) (by simp <;> omega))
  have HB := fun (w' : World) (h : More (((w.alloc (.cells #[.bool b, .slice pa pn pc, .slice pd pm pe] 30)).alloc (.cells #[.bool c, .slice qa qn qc, .slice qd qm qe] 30)).alloc (.cells #[.bool false, .slice none 0 0, .slice none 0 0] 30)) w') => And.intro (bx3 (w.heap.size) (by simp) (More.un (More.un h))) (And.intro (bx3 (w.heap.size + 1) (by simp) (More.un h)) (bx3 (w.heap.size + 1 + 1) (by simp) h))
  go_enter Tryz.func48, Tryz.ntmps48
  go_wp2_with (first | (go_at_call 119; (with_reducible refine (spec_RatOk b (.slice pa pn pc) (.slice pd pm pe) x _ (Ty.at_more Hp.out mC) Wp.out).mono ?_); rintro e w1 ⟨rfl, hb1⟩; have HX1 := More.trans HX (show More _ w1 from mC); have HB1 := HB _ HX1; have hz1 := More.size HX1; (try simp at hz1); have hb1 := hb1; rw [Kp.out]) | (go_at_call 119; (with_reducible refine (spec_RatOk c (.slice qa qn qc) (.slice qd qm qe) y _ (Ty.at_more Hq.out mC) Wq.out).mono ?_); rintro e w2 ⟨rfl, hb2⟩; have HX2 := More.trans HX (show More _ w2 from mC); have HB2 := HB _ HX2; have hz2 := More.size HX2; (try simp at hz2); have hb2 := hb2; rw [Kq.out]))
  go_region_held3 (fun w' => Turns [w.heap.size + 1 + 1] (((w.alloc (.cells #[.bool b, .slice pa pn pc, .slice pd pm pe] 30)).alloc (.cells #[.bool c, .slice qa qn qc, .slice qd qm qe] 30)).alloc (.cells #[.bool false, .slice none 0 0, .slice none 0 0] 30)) w') (first | exact tC | exact mC2) (first | (go_at_call 122; (with_reducible refine (spec_l02Mul (.slice pa pn pc) (.slice qd qm qe) (frOf x).1.natAbs (frOf y).2 _ (Ty.at_more Hp1.out mC) (Ty.at_more Hq2.out mC) (Nat.le_trans Lp1.out (by decide)) (Nat.le_trans Lq2.out (by decide))).mono ?_); rintro e w3 ⟨u3, rfl, hb3, g3⟩; obtain ⟨x3a, x3n, x3c, rfl⟩ := sh1 g3; have G3 := Lib.hid g3; clear g3; have HX3 := More.trans HX (show More _ w3 from mC); have HB3 := HB _ HX3; have hz3 := More.size HX3; (try simp at hz3); have hb3 := hb3) | (go_at_call 122; (with_reducible refine (spec_l02Mul (.slice pd pm pe) (.slice qa qn qc) (frOf x).2 (frOf y).1.natAbs _ (Ty.at_more Hp2.out mC) (Ty.at_more Hq1.out mC) (Nat.le_trans Lp2.out (by decide)) (Nat.le_trans Lq1.out (by decide))).mono ?_); rintro e w4 ⟨u4, rfl, hb4, g4⟩; obtain ⟨x4a, x4n, x4c, rfl⟩ := sh1 g4; have G4 := Lib.hid g4; clear g4; have HX4 := More.trans HX (show More _ w4 from mC); have HB4 := HB _ HX4; have hz4 := More.size HX4; (try simp at hz4); have hb4 := hb4) | (go_at_call 121; (with_reducible refine (spec_l04Low (!(b == c)) (.slice x3a x3n x3c) (.slice x4a x4n x4c) ((frOf x).1.natAbs * (frOf y).2) ((frOf x).2 * (frOf y).1.natAbs) _ (Ty.at_more G3.out mC) (Ty.at_more G4.out mC) (Nat.le_trans (len_mulN Lp1.out Lq2.out) (by decide)) (Nat.le_trans (len_mulN Lp2.out Lq1.out) (by decide))).mono ?_); rintro e w5 ⟨x5, y5, rfl, hb5, f5⟩; obtain ⟨r5a, r5n, r5c, r5d, r5m, r5e, rfl, rfl⟩ := f5.at.sh; have F5 : Hid (RatFr (((w.alloc (.cells #[.bool b, .slice pa pn pc, .slice pd pm pe] 30)).alloc (.cells #[.bool c, .slice qa qn qc, .slice qd qm qe] 30)).alloc (.cells #[.bool false, .slice none 0 0, .slice none 0 0] 30)).heap.size w5 (frL (!(b == c)) ((frOf x).1.natAbs * (frOf y).2) ((frOf x).2 * (frOf y).1.natAbs)) _ _) := Lib.hid (RatFr.mono f5 (More.size mC)); clear f5; have HX5 := More.trans HX (show More _ w5 from mC); have HB5 := HB _ HX5; have hz5 := More.size HX5; (try simp at hz5); have hb5 := hb5))
  all_goals
    go_wp2_with fail
    refine bodyPost_ret (v := .agg #[.bool (decide ((frL (!(b == c)) ((frOf x).1.natAbs * (frOf y).2) ((frOf x).2 * (frOf y).1.natAbs)).1 < 0)), .slice r5a r5n r5c, .slice r5d r5m r5e]) ?_ rfl ?_
    · simp [results, Tryz.results48, go_sem, *]
    · exact ⟨_, _, rfl, mC2, (F5.out.turns (bs := [w.heap.size + 1 + 1]) tC (by simp)).mono (by simp; try omega)⟩
theorem spec_RatDivR (f g : Fr) (x : QR) (b : Bool) (up vp : Value) (y : QR) (c : Bool) (uq vq : Value) (w : World) (hf : frOf x = f) (hg : frOf y = g) (hp : tRat.at w [.bool b, up, vp] x) (lp : wRat x ≤ 1048576) (hq : tRat.at w [.bool c, uq, vq] y) (lq : wRat y ≤ 1048576) :
    Calls Tryz.prog 48 #[.agg #[.bool b, up, vp], .agg #[.bool c, uq, vq]] w fun e w' => ∃ u v, e = .returned (.agg #[.bool (decide ((frDiv f g).1 < 0)), u, v]) ∧ More w w' ∧ RatFr w.heap.size w' (frDiv f g) u v := by
  subst hf
  subst hg
  exact spec_RatDiv x b up vp y c uq vq w hp lp hq lq
end Go.Proofs.YteihkhniibncnaaGreat
