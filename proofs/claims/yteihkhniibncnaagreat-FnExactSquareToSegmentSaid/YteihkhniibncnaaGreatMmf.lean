/- The lesser and the greater of two computed fractions. -/
import Derived.Test.YteihkhniibncnaaGreatThn
import Derived.Test.YteihkhniibncnaaGreatMm
import Derived.Test.YteihkhniibncnaaGreatSgx
import Derived.Test.YteihkhniibncnaaGreatPor
namespace Go.Proofs.YteihkhniibncnaaGreat
open Go.RowKit
theorem rat_of {w w' : World} {f : Fr} {b : Bool} {u v : Value} (h : RatAt w f u v) (hb : decide (f.1 < 0) = b) (hm : More w w') : tRat.at w' [.bool b, u, v] (encR f) := by
  rw [← hb]
  exact RatAt.out (RatAt.more h hm)
theorem minQ_enc {f g : Fr} (hf : Vd f) (hg : Vd g) (a : f.2 ≠ 0) (b : g.2 ≠ 0) : minQ (encR f) (encR g) = encR (minF f g) := by
  have hn : ¬ (f.2 = 0 ∨ g.2 = 0) := fun k => k.elim a b
  unfold minQ minF rCmp
  rw [frOf_enc hf, frOf_enc hg, if_neg hn]
  split <;> rfl
theorem maxQ_enc {f g : Fr} (hf : Vd f) (hg : Vd g) (a : f.2 ≠ 0) (b : g.2 ≠ 0) : maxQ (encR f) (encR g) = encR (maxF f g) := by
  have hn : ¬ (f.2 = 0 ∨ g.2 = 0) := fun k => k.elim a b
  unfold maxQ maxF rCmp
  rw [frOf_enc hf, frOf_enc hg, if_neg hn]
  split <;> rfl
theorem at_enc {w : World} {f : Fr} {b : Bool} {u v : Value} (h : tRat.at w [.bool b, u, v] (encR f)) (k : Vd f) (a : f.2 ≠ 0) : RatAt w f u v := by
  have h1 := (frOf_at h (by rw [ratOk_encP k]; exact decide_eq_true a)).2
  rwa [frOf_enc k] at h1
set_option maxRecDepth 4000 in
set_option maxHeartbeats 6400000 in
theorem impl_ratMinF (f : Fr) (up vp : Value) (g : Fr) (uq vq : Value) (w : World) (hp : RatAt w f up vp) (kp : Vd f) (hq : RatAt w g uq vq) (kq : Vd g) :
    Calls Tryz.prog 149 #[.agg #[.bool (decide (f.1 < 0)), up, vp], .agg #[.bool (decide (g.1 < 0)), uq, vq]] w fun e w' => ∃ x y, e = .returned (.agg #[.bool (decide ((minF f g).1 < 0)), x, y]) ∧ More w w' ∧ RatAt w' (minF f g) x y := by
  have KVp := Lib.hid kp; have KVq := Lib.hid kq
  by_cases hf0 : f.2 = 0
  rotate_left
  · by_cases hg0 : g.2 = 0
    rotate_left
    · refine (impl_ratMin [.bool (decide (f.1 < 0)), up, vp] (encR f) [.bool (decide (g.1 < 0)), uq, vq] (encR g) w (RatAt.out hp) (wRat_enc kp) (RatAt.out hq) (wRat_enc kq) (by rw [ratOk_encP kp]; exact decide_eq_true hf0) (by rw [ratOk_encP kq]; exact decide_eq_true hg0)).mono ?_
      rw [minQ_enc kp kq hf0 hg0]
      rintro e w' ⟨u, v, rfl, h1, h2⟩
      refine ⟨u, v, rfl, h1, at_enc h2 (minF_vd kp kq) ?_⟩
      unfold minF
      rw [if_neg (fun k => k.elim hf0 hg0)]
      split <;> assumption
    · have Kp : Hid (decide (f.2 ≠ 0) = true) := Lib.hid (by simp [hf0])
      have Kq : Hid (decide (g.2 ≠ 0) = false) := Lib.hid (by simp [hg0])
      rw [minF, if_pos (.inr hg0)]
      show Calls _ _ _ _ (fun e w' => ∃ x y, e = .returned (.agg #[.bool false, x, y]) ∧ More w w' ∧ RatAt w' (0, 0) x y)
      clear hf0 hg0
      obtain ⟨pa, pn, pc, pd, pm, pe, rfl, rfl, p1, p2⟩ := hp.shL
      have Hp1 := Lib.hid hp.1; have Hp2 := Lib.hid hp.2; have Hp := Lib.hid hp; have Lp1 := Lib.hid kp.sm1; have Lp2 := Lib.hid kp.sm2; have Np1 := Lib.hid p1; have Np2 := Lib.hid p2; clear hp p1 p2
      obtain ⟨s, zp⟩ : ∃ b, decide (f.1 < 0) = b := ⟨_, rfl⟩
      rw [zp]
      have Sp := Lib.hid zp; clear zp
      obtain ⟨qa, qn, qc, qd, qm, qe, rfl, rfl, q1, q2⟩ := hq.shL
      have Hq1 := Lib.hid hq.1; have Hq2 := Lib.hid hq.2; have Hq := Lib.hid hq; have Lq1 := Lib.hid kq.sm1; have Lq2 := Lib.hid kq.sm2; have Nq1 := Lib.hid q1; have Nq2 := Lib.hid q2; clear hq q1 q2
      obtain ⟨t, zq⟩ : ∃ b, decide (g.1 < 0) = b := ⟨_, rfl⟩
      rw [zq]
      have Sq := Lib.hid zq; clear zq
      have HX := More.refl (((w.alloc (.cells #[.bool s, .slice pa pn pc, .slice pd pm pe] 30)).alloc (.cells #[.bool t, .slice qa qn qc, .slice qd qm qe] 30)).alloc (.cells #[.bool false, .slice none 0 0, .slice none 0 0] 30))
      have HC := fun (w' : World) (h : Turns [w.heap.size + 1 + 1] (((w.alloc (.cells #[.bool s, .slice pa pn pc, .slice pd pm pe] 30)).alloc (.cells #[.bool t, .slice qa qn qc, .slice qd qm qe] 30)).alloc (.cells #[.bool false, .slice none 0 0, .slice none 0 0] 30)) w') => And.intro (bt3 (w.heap.size) (by simp) (More.un (More.un (More.refl _))) h (by simp <;> omega) (by simp <;> omega)) (bt3 (w.heap.size + 1) (by simp) (More.un (More.refl _)) h (by simp <;> omega) (by simp <;> omega))
      have HB := fun (w' : World) (h : More (((w.alloc (.cells #[.bool s, .slice pa pn pc, .slice pd pm pe] 30)).alloc (.cells #[.bool t, .slice qa qn qc, .slice qd qm qe] 30)).alloc (.cells #[.bool false, .slice none 0 0, .slice none 0 0] 30)) w') => And.intro (bx3 (w.heap.size) (by simp) (More.un (More.un h))) (And.intro (bx3 (w.heap.size + 1) (by simp) (More.un h)) (bx3 (w.heap.size + 1 + 1) (by simp) h))
      go_enter Tryz.func149, Tryz.ntmps149
      go_wp2_with (first | (go_at_call 59; (with_reducible refine (impl_isGood s f (.slice pa pn pc) (.slice pd pm pe) _ (Hp.out.more mC)).mono ?_); rintro e w1 ⟨rfl, hb1⟩; have HX1 := More.trans HX (show More _ w1 from mC); have HB1 := HB _ HX1; have hz1 := More.size HX1; (try simp at hz1); have hb1 := hb1; rw [Kp.out]) | (go_at_call 59; (with_reducible refine (impl_isGood t g (.slice qa qn qc) (.slice qd qm qe) _ (Hq.out.more mC)).mono ?_); rintro e w2 ⟨rfl, hb2⟩; have HX2 := More.trans HX (show More _ w2 from mC); have HB2 := HB _ HX2; have hz2 := More.size HX2; (try simp at hz2); have hb2 := hb2; rw [Kq.out]))
      refine bodyPost_ret (v := .agg #[.bool false, .slice none 0 0, .slice none 0 0]) ?_ rfl ?_
      · simp [results, Tryz.results149, go_sem, *]
      · exact ⟨_, _, rfl, mC2, RatFr.at (RatFr.zero (B := 0))⟩
  · have Kp : Hid (decide (f.2 ≠ 0) = false) := Lib.hid (by simp [hf0])
    rw [minF, if_pos (.inl hf0)]
    show Calls _ _ _ _ (fun e w' => ∃ x y, e = .returned (.agg #[.bool false, x, y]) ∧ More w w' ∧ RatAt w' (0, 0) x y)
    clear hf0
    obtain ⟨pa, pn, pc, pd, pm, pe, rfl, rfl, p1, p2⟩ := hp.shL
    have Hp1 := Lib.hid hp.1; have Hp2 := Lib.hid hp.2; have Hp := Lib.hid hp; have Lp1 := Lib.hid kp.sm1; have Lp2 := Lib.hid kp.sm2; have Np1 := Lib.hid p1; have Np2 := Lib.hid p2; clear hp p1 p2
    obtain ⟨s, zp⟩ : ∃ b, decide (f.1 < 0) = b := ⟨_, rfl⟩
    rw [zp]
    have Sp := Lib.hid zp; clear zp
    obtain ⟨qa, qn, qc, qd, qm, qe, rfl, rfl, q1, q2⟩ := hq.shL
    have Hq1 := Lib.hid hq.1; have Hq2 := Lib.hid hq.2; have Hq := Lib.hid hq; have Lq1 := Lib.hid kq.sm1; have Lq2 := Lib.hid kq.sm2; have Nq1 := Lib.hid q1; have Nq2 := Lib.hid q2; clear hq q1 q2
    obtain ⟨t, zq⟩ : ∃ b, decide (g.1 < 0) = b := ⟨_, rfl⟩
    rw [zq]
    have Sq := Lib.hid zq; clear zq
    have HX := More.refl (((w.alloc (.cells #[.bool s, .slice pa pn pc, .slice pd pm pe] 30)).alloc (.cells #[.bool t, .slice qa qn qc, .slice qd qm qe] 30)).alloc (.cells #[.bool false, .slice none 0 0, .slice none 0 0] 30))
    have HC := fun (w' : World) (h : Turns [w.heap.size + 1 + 1] (((w.alloc (.cells #[.bool s, .slice pa pn pc, .slice pd pm pe] 30)).alloc (.cells #[.bool t, .slice qa qn qc, .slice qd qm qe] 30)).alloc (.cells #[.bool false, .slice none 0 0, .slice none 0 0] 30)) w') => And.intro (bt3 (w.heap.size) (by simp) (More.un (More.un (More.refl _))) h (by simp <;> omega) (by simp <;> omega)) (bt3 (w.heap.size + 1) (by simp) (More.un (More.refl _)) h (by simp <;> omega) (by simp <;> omega))
    have HB := fun (w' : World) (h : More (((w.alloc (.cells #[.bool s, .slice pa pn pc, .slice pd pm pe] 30)).alloc (.cells #[.bool t, .slice qa qn qc, .slice qd qm qe] 30)).alloc (.cells #[.bool false, .slice none 0 0, .slice none 0 0] 30)) w') => And.intro (bx3 (w.heap.size) (by simp) (More.un (More.un h))) (And.intro (bx3 (w.heap.size + 1) (by simp) (More.un h)) (bx3 (w.heap.size + 1 + 1) (by simp) h))
    go_enter Tryz.func149, Tryz.ntmps149
    go_wp2_with (first | (go_at_call 59; (with_reducible refine (impl_isGood s f (.slice pa pn pc) (.slice pd pm pe) _ (Hp.out.more mC)).mono ?_); rintro e w1 ⟨rfl, hb1⟩; have HX1 := More.trans HX (show More _ w1 from mC); have HB1 := HB _ HX1; have hz1 := More.size HX1; (try simp at hz1); have hb1 := hb1; rw [Kp.out]))
    refine bodyPost_ret (v := .agg #[.bool false, .slice none 0 0, .slice none 0 0]) ?_ rfl ?_
    · simp [results, Tryz.results149, go_sem, *]
    · exact ⟨_, _, rfl, mC2, RatFr.at (RatFr.zero (B := 0))⟩
theorem impl_ratMinFB (f : Fr) (b : Bool) (up vp : Value) (g : Fr) (c : Bool) (uq vq : Value)  (w : World) (hb : decide (f.1 < 0) = b) (hc : decide (g.1 < 0) = c) (hp : RatAt w f up vp) (kp : Vd f) (hq : RatAt w g uq vq) (kq : Vd g) :
    Calls Tryz.prog 149 #[.agg #[.bool b, up, vp], .agg #[.bool c, uq, vq]] w fun e w' => ∃ x y, e = .returned (.agg #[.bool (decide ((minF f g).1 < 0)), x, y]) ∧ More w w' ∧ RatAt w' (minF f g) x y := by
  subst hb
  subst hc
  exact impl_ratMinF f up vp g uq vq w hp kp hq kq
set_option maxRecDepth 4000 in
set_option maxHeartbeats 6400000 in
theorem impl_ratMaxF (f : Fr) (up vp : Value) (g : Fr) (uq vq : Value) (w : World) (hp : RatAt w f up vp) (kp : Vd f) (hq : RatAt w g uq vq) (kq : Vd g) :
    Calls Tryz.prog 150 #[.agg #[.bool (decide (f.1 < 0)), up, vp], .agg #[.bool (decide (g.1 < 0)), uq, vq]] w fun e w' => ∃ x y, e = .returned (.agg #[.bool (decide ((maxF f g).1 < 0)), x, y]) ∧ More w w' ∧ RatAt w' (maxF f g) x y := by
  have KVp := Lib.hid kp; have KVq := Lib.hid kq
  by_cases hf0 : f.2 = 0
  rotate_left
  · by_cases hg0 : g.2 = 0
    rotate_left
    · refine (impl_ratMax [.bool (decide (f.1 < 0)), up, vp] (encR f) [.bool (decide (g.1 < 0)), uq, vq] (encR g) w (RatAt.out hp) (wRat_enc kp) (RatAt.out hq) (wRat_enc kq) (by rw [ratOk_encP kp]; exact decide_eq_true hf0) (by rw [ratOk_encP kq]; exact decide_eq_true hg0)).mono ?_
      rw [maxQ_enc kp kq hf0 hg0]
      rintro e w' ⟨u, v, rfl, h1, h2⟩
      refine ⟨u, v, rfl, h1, at_enc h2 (maxF_vd kp kq) ?_⟩
      unfold maxF
      rw [if_neg (fun k => k.elim hf0 hg0)]
      split <;> assumption
    · have Kp : Hid (decide (f.2 ≠ 0) = true) := Lib.hid (by simp [hf0])
      have Kq : Hid (decide (g.2 ≠ 0) = false) := Lib.hid (by simp [hg0])
      rw [maxF, if_pos (.inr hg0)]
      show Calls _ _ _ _ (fun e w' => ∃ x y, e = .returned (.agg #[.bool false, x, y]) ∧ More w w' ∧ RatAt w' (0, 0) x y)
      clear hf0 hg0
      obtain ⟨pa, pn, pc, pd, pm, pe, rfl, rfl, p1, p2⟩ := hp.shL
      have Hp1 := Lib.hid hp.1; have Hp2 := Lib.hid hp.2; have Hp := Lib.hid hp; have Lp1 := Lib.hid kp.sm1; have Lp2 := Lib.hid kp.sm2; have Np1 := Lib.hid p1; have Np2 := Lib.hid p2; clear hp p1 p2
      obtain ⟨s, zp⟩ : ∃ b, decide (f.1 < 0) = b := ⟨_, rfl⟩
      rw [zp]
      have Sp := Lib.hid zp; clear zp
      obtain ⟨qa, qn, qc, qd, qm, qe, rfl, rfl, q1, q2⟩ := hq.shL
      have Hq1 := Lib.hid hq.1; have Hq2 := Lib.hid hq.2; have Hq := Lib.hid hq; have Lq1 := Lib.hid kq.sm1; have Lq2 := Lib.hid kq.sm2; have Nq1 := Lib.hid q1; have Nq2 := Lib.hid q2; clear hq q1 q2
      obtain ⟨t, zq⟩ : ∃ b, decide (g.1 < 0) = b := ⟨_, rfl⟩
      rw [zq]
      have Sq := Lib.hid zq; clear zq
      have HX := More.refl (((w.alloc (.cells #[.bool s, .slice pa pn pc, .slice pd pm pe] 30)).alloc (.cells #[.bool t, .slice qa qn qc, .slice qd qm qe] 30)).alloc (.cells #[.bool false, .slice none 0 0, .slice none 0 0] 30))
      have HC := fun (w' : World) (h : Turns [w.heap.size + 1 + 1] (((w.alloc (.cells #[.bool s, .slice pa pn pc, .slice pd pm pe] 30)).alloc (.cells #[.bool t, .slice qa qn qc, .slice qd qm qe] 30)).alloc (.cells #[.bool false, .slice none 0 0, .slice none 0 0] 30)) w') => And.intro (bt3 (w.heap.size) (by simp) (More.un (More.un (More.refl _))) h (by simp <;> omega) (by simp <;> omega)) (bt3 (w.heap.size + 1) (by simp) (More.un (More.refl _)) h (by simp <;> omega) (by simp <;> omega))
      have HB := fun (w' : World) (h : More (((w.alloc (.cells #[.bool s, .slice pa pn pc, .slice pd pm pe] 30)).alloc (.cells #[.bool t, .slice qa qn qc, .slice qd qm qe] 30)).alloc (.cells #[.bool false, .slice none 0 0, .slice none 0 0] 30)) w') => And.intro (bx3 (w.heap.size) (by simp) (More.un (More.un h))) (And.intro (bx3 (w.heap.size + 1) (by simp) (More.un h)) (bx3 (w.heap.size + 1 + 1) (by simp) h))
      go_enter Tryz.func150, Tryz.ntmps150
      go_wp2_with (first | (go_at_call 59; (with_reducible refine (impl_isGood s f (.slice pa pn pc) (.slice pd pm pe) _ (Hp.out.more mC)).mono ?_); rintro e w1 ⟨rfl, hb1⟩; have HX1 := More.trans HX (show More _ w1 from mC); have HB1 := HB _ HX1; have hz1 := More.size HX1; (try simp at hz1); have hb1 := hb1; rw [Kp.out]) | (go_at_call 59; (with_reducible refine (impl_isGood t g (.slice qa qn qc) (.slice qd qm qe) _ (Hq.out.more mC)).mono ?_); rintro e w2 ⟨rfl, hb2⟩; have HX2 := More.trans HX (show More _ w2 from mC); have HB2 := HB _ HX2; have hz2 := More.size HX2; (try simp at hz2); have hb2 := hb2; rw [Kq.out]))
      refine bodyPost_ret (v := .agg #[.bool false, .slice none 0 0, .slice none 0 0]) ?_ rfl ?_
      · simp [results, Tryz.results150, go_sem, *]
      · exact ⟨_, _, rfl, mC2, RatFr.at (RatFr.zero (B := 0))⟩
  · have Kp : Hid (decide (f.2 ≠ 0) = false) := Lib.hid (by simp [hf0])
    rw [maxF, if_pos (.inl hf0)]
    show Calls _ _ _ _ (fun e w' => ∃ x y, e = .returned (.agg #[.bool false, x, y]) ∧ More w w' ∧ RatAt w' (0, 0) x y)
    clear hf0
    obtain ⟨pa, pn, pc, pd, pm, pe, rfl, rfl, p1, p2⟩ := hp.shL
    have Hp1 := Lib.hid hp.1; have Hp2 := Lib.hid hp.2; have Hp := Lib.hid hp; have Lp1 := Lib.hid kp.sm1; have Lp2 := Lib.hid kp.sm2; have Np1 := Lib.hid p1; have Np2 := Lib.hid p2; clear hp p1 p2
    obtain ⟨s, zp⟩ : ∃ b, decide (f.1 < 0) = b := ⟨_, rfl⟩
    rw [zp]
    have Sp := Lib.hid zp; clear zp
    obtain ⟨qa, qn, qc, qd, qm, qe, rfl, rfl, q1, q2⟩ := hq.shL
    have Hq1 := Lib.hid hq.1; have Hq2 := Lib.hid hq.2; have Hq := Lib.hid hq; have Lq1 := Lib.hid kq.sm1; have Lq2 := Lib.hid kq.sm2; have Nq1 := Lib.hid q1; have Nq2 := Lib.hid q2; clear hq q1 q2
    obtain ⟨t, zq⟩ : ∃ b, decide (g.1 < 0) = b := ⟨_, rfl⟩
    rw [zq]
    have Sq := Lib.hid zq; clear zq
    have HX := More.refl (((w.alloc (.cells #[.bool s, .slice pa pn pc, .slice pd pm pe] 30)).alloc (.cells #[.bool t, .slice qa qn qc, .slice qd qm qe] 30)).alloc (.cells #[.bool false, .slice none 0 0, .slice none 0 0] 30))
    have HC := fun (w' : World) (h : Turns [w.heap.size + 1 + 1] (((w.alloc (.cells #[.bool s, .slice pa pn pc, .slice pd pm pe] 30)).alloc (.cells #[.bool t, .slice qa qn qc, .slice qd qm qe] 30)).alloc (.cells #[.bool false, .slice none 0 0, .slice none 0 0] 30)) w') => And.intro (bt3 (w.heap.size) (by simp) (More.un (More.un (More.refl _))) h (by simp <;> omega) (by simp <;> omega)) (bt3 (w.heap.size + 1) (by simp) (More.un (More.refl _)) h (by simp <;> omega) (by simp <;> omega))
    have HB := fun (w' : World) (h : More (((w.alloc (.cells #[.bool s, .slice pa pn pc, .slice pd pm pe] 30)).alloc (.cells #[.bool t, .slice qa qn qc, .slice qd qm qe] 30)).alloc (.cells #[.bool false, .slice none 0 0, .slice none 0 0] 30)) w') => And.intro (bx3 (w.heap.size) (by simp) (More.un (More.un h))) (And.intro (bx3 (w.heap.size + 1) (by simp) (More.un h)) (bx3 (w.heap.size + 1 + 1) (by simp) h))
    go_enter Tryz.func150, Tryz.ntmps150
    go_wp2_with (first | (go_at_call 59; (with_reducible refine (impl_isGood s f (.slice pa pn pc) (.slice pd pm pe) _ (Hp.out.more mC)).mono ?_); rintro e w1 ⟨rfl, hb1⟩; have HX1 := More.trans HX (show More _ w1 from mC); have HB1 := HB _ HX1; have hz1 := More.size HX1; (try simp at hz1); have hb1 := hb1; rw [Kp.out]))
    refine bodyPost_ret (v := .agg #[.bool false, .slice none 0 0, .slice none 0 0]) ?_ rfl ?_
    · simp [results, Tryz.results150, go_sem, *]
    · exact ⟨_, _, rfl, mC2, RatFr.at (RatFr.zero (B := 0))⟩
theorem impl_ratMaxFB (f : Fr) (b : Bool) (up vp : Value) (g : Fr) (c : Bool) (uq vq : Value)  (w : World) (hb : decide (f.1 < 0) = b) (hc : decide (g.1 < 0) = c) (hp : RatAt w f up vp) (kp : Vd f) (hq : RatAt w g uq vq) (kq : Vd g) :
    Calls Tryz.prog 150 #[.agg #[.bool b, up, vp], .agg #[.bool c, uq, vq]] w fun e w' => ∃ x y, e = .returned (.agg #[.bool (decide ((maxF f g).1 < 0)), x, y]) ∧ More w w' ∧ RatAt w' (maxF f g) x y := by
  subst hb
  subst hc
  exact impl_ratMaxF f up vp g uq vq w hp kp hq kq
set_option maxRecDepth 4000 in
set_option maxHeartbeats 6400000 in
theorem spec_RatMinF (f : Fr) (up vp : Value) (g : Fr) (uq vq : Value) (w : World) (hp : RatAt w f up vp) (kp : Vd f) (hq : RatAt w g uq vq) (kq : Vd g) :
    Calls Tryz.prog 85 #[.agg #[.bool (decide (f.1 < 0)), up, vp], .agg #[.bool (decide (g.1 < 0)), uq, vq]] w fun e w' => ∃ x y, e = .returned (.agg #[.bool (decide ((minF f g).1 < 0)), x, y]) ∧ More w w' ∧ RatAt w' (minF f g) x y := by
  have KVp := Lib.hid kp; have KVq := Lib.hid kq
  by_cases hf0 : f.2 = 0
  rotate_left
  · by_cases hg0 : g.2 = 0
    rotate_left
    · refine (spec_RatMin [.bool (decide (f.1 < 0)), up, vp] (encR f) [.bool (decide (g.1 < 0)), uq, vq] (encR g) w (RatAt.out hp) (wRat_enc kp) (RatAt.out hq) (wRat_enc kq) (by rw [ratOk_encP kp]; exact decide_eq_true hf0) (by rw [ratOk_encP kq]; exact decide_eq_true hg0)).mono ?_
      rw [minQ_enc kp kq hf0 hg0]
      rintro e w' ⟨u, v, rfl, h1, h2⟩
      refine ⟨u, v, rfl, h1, at_enc h2 (minF_vd kp kq) ?_⟩
      unfold minF
      rw [if_neg (fun k => k.elim hf0 hg0)]
      split <;> assumption
    · have Kp : Hid (decide (f.2 ≠ 0) = true) := Lib.hid (by simp [hf0])
      have Kq : Hid (decide (g.2 ≠ 0) = false) := Lib.hid (by simp [hg0])
      rw [minF, if_pos (.inr hg0)]
      show Calls _ _ _ _ (fun e w' => ∃ x y, e = .returned (.agg #[.bool false, x, y]) ∧ More w w' ∧ RatAt w' (0, 0) x y)
      clear hf0 hg0
      obtain ⟨pa, pn, pc, pd, pm, pe, rfl, rfl, p1, p2⟩ := hp.shL
      have Hp1 := Lib.hid hp.1; have Hp2 := Lib.hid hp.2; have Hp := Lib.hid hp; have Lp1 := Lib.hid kp.sm1; have Lp2 := Lib.hid kp.sm2; have Np1 := Lib.hid p1; have Np2 := Lib.hid p2; clear hp p1 p2
      obtain ⟨s, zp⟩ : ∃ b, decide (f.1 < 0) = b := ⟨_, rfl⟩
      rw [zp]
      have Sp := Lib.hid zp; clear zp
      obtain ⟨qa, qn, qc, qd, qm, qe, rfl, rfl, q1, q2⟩ := hq.shL
      have Hq1 := Lib.hid hq.1; have Hq2 := Lib.hid hq.2; have Hq := Lib.hid hq; have Lq1 := Lib.hid kq.sm1; have Lq2 := Lib.hid kq.sm2; have Nq1 := Lib.hid q1; have Nq2 := Lib.hid q2; clear hq q1 q2
      obtain ⟨t, zq⟩ : ∃ b, decide (g.1 < 0) = b := ⟨_, rfl⟩
      rw [zq]
      have Sq := Lib.hid zq; clear zq
      have HX := More.refl (((w.alloc (.cells #[.bool s, .slice pa pn pc, .slice pd pm pe] 30)).alloc (.cells #[.bool t, .slice qa qn qc, .slice qd qm qe] 30)).alloc (.cells #[.bool false, .slice none 0 0, .slice none 0 0] 30))
      have HC := fun (w' : World) (h : Turns [w.heap.size + 1 + 1] (((w.alloc (.cells #[.bool s, .slice pa pn pc, .slice pd pm pe] 30)).alloc (.cells #[.bool t, .slice qa qn qc, .slice qd qm qe] 30)).alloc (.cells #[.bool false, .slice none 0 0, .slice none 0 0] 30)) w') => And.intro (bt3 (w.heap.size) (by simp) (More.un (More.un (More.refl _))) h (by simp <;> omega) (by simp <;> omega)) (bt3 (w.heap.size + 1) (by simp) (More.un (More.refl _)) h (by simp <;> omega) (by simp <;> omega))
      have HB := fun (w' : World) (h : More (((w.alloc (.cells #[.bool s, .slice pa pn pc, .slice pd pm pe] 30)).alloc (.cells #[.bool t, .slice qa qn qc, .slice qd qm qe] 30)).alloc (.cells #[.bool false, .slice none 0 0, .slice none 0 0] 30)) w') => And.intro (bx3 (w.heap.size) (by simp) (More.un (More.un h))) (And.intro (bx3 (w.heap.size + 1) (by simp) (More.un h)) (bx3 (w.heap.size + 1 + 1) (by simp) h))
      go_enter Tryz.func85, Tryz.ntmps85
      go_wp2_with (first | (go_at_call 119; (with_reducible refine (spec_RatOk s (.slice pa pn pc) (.slice pd pm pe) (encR f) _ (rat_of Hp.out Sp.out mC) (wRat_enc KVp.out)).mono ?_); rintro e w1 ⟨rfl, hb1⟩; have HX1 := More.trans HX (show More _ w1 from mC); have HB1 := HB _ HX1; have hz1 := More.size HX1; (try simp at hz1); have hb1 := hb1; rw [ratOk_encP KVp.out, Kp.out]) | (go_at_call 119; (with_reducible refine (spec_RatOk t (.slice qa qn qc) (.slice qd qm qe) (encR g) _ (rat_of Hq.out Sq.out mC) (wRat_enc KVq.out)).mono ?_); rintro e w2 ⟨rfl, hb2⟩; have HX2 := More.trans HX (show More _ w2 from mC); have HB2 := HB _ HX2; have hz2 := More.size HX2; (try simp at hz2); have hb2 := hb2; rw [ratOk_encP KVq.out, Kq.out]))
      refine bodyPost_ret (v := .agg #[.bool false, .slice none 0 0, .slice none 0 0]) ?_ rfl ?_
      · simp [results, Tryz.results85, go_sem, *]
      · exact ⟨_, _, rfl, mC2, RatFr.at (RatFr.zero (B := 0))⟩
  · have Kp : Hid (decide (f.2 ≠ 0) = false) := Lib.hid (by simp [hf0])
    rw [minF, if_pos (.inl hf0)]
    show Calls _ _ _ _ (fun e w' => ∃ x y, e = .returned (.agg #[.bool false, x, y]) ∧ More w w' ∧ RatAt w' (0, 0) x y)
    clear hf0
    obtain ⟨pa, pn, pc, pd, pm, pe, rfl, rfl, p1, p2⟩ := hp.shL
    have Hp1 := Lib.hid hp.1; have Hp2 := Lib.hid hp.2; have Hp := Lib.hid hp; have Lp1 := Lib.hid kp.sm1; have Lp2 := Lib.hid kp.sm2; have Np1 := Lib.hid p1; have Np2 := Lib.hid p2; clear hp p1 p2
    obtain ⟨s, zp⟩ : ∃ b, decide (f.1 < 0) = b := ⟨_, rfl⟩
    rw [zp]
    have Sp := Lib.hid zp; clear zp
    obtain ⟨qa, qn, qc, qd, qm, qe, rfl, rfl, q1, q2⟩ := hq.shL
    have Hq1 := Lib.hid hq.1; have Hq2 := Lib.hid hq.2; have Hq := Lib.hid hq; have Lq1 := Lib.hid kq.sm1; have Lq2 := Lib.hid kq.sm2; have Nq1 := Lib.hid q1; have Nq2 := Lib.hid q2; clear hq q1 q2
    obtain ⟨t, zq⟩ : ∃ b, decide (g.1 < 0) = b := ⟨_, rfl⟩
    rw [zq]
    have Sq := Lib.hid zq; clear zq
    have HX := More.refl (((w.alloc (.cells #[.bool s, .slice pa pn pc, .slice pd pm pe] 30)).alloc (.cells #[.bool t, .slice qa qn qc, .slice qd qm qe] 30)).alloc (.cells #[.bool false, .slice none 0 0, .slice none 0 0] 30))
    have HC := fun (w' : World) (h : Turns [w.heap.size + 1 + 1] (((w.alloc (.cells #[.bool s, .slice pa pn pc, .slice pd pm pe] 30)).alloc (.cells #[.bool t, .slice qa qn qc, .slice qd qm qe] 30)).alloc (.cells #[.bool false, .slice none 0 0, .slice none 0 0] 30)) w') => And.intro (bt3 (w.heap.size) (by simp) (More.un (More.un (More.refl _))) h (by simp <;> omega) (by simp <;> omega)) (bt3 (w.heap.size + 1) (by simp) (More.un (More.refl _)) h (by simp <;> omega) (by simp <;> omega))
    have HB := fun (w' : World) (h : More (((w.alloc (.cells #[.bool s, .slice pa pn pc, .slice pd pm pe] 30)).alloc (.cells #[.bool t, .slice qa qn qc, .slice qd qm qe] 30)).alloc (.cells #[.bool false, .slice none 0 0, .slice none 0 0] 30)) w') => And.intro (bx3 (w.heap.size) (by simp) (More.un (More.un h))) (And.intro (bx3 (w.heap.size + 1) (by simp) (More.un h)) (bx3 (w.heap.size + 1 + 1) (by simp) h))
    go_enter Tryz.func85, Tryz.ntmps85
    go_wp2_with (first | (go_at_call 119; (with_reducible refine (spec_RatOk s (.slice pa pn pc) (.slice pd pm pe) (encR f) _ (rat_of Hp.out Sp.out mC) (wRat_enc KVp.out)).mono ?_); rintro e w1 ⟨rfl, hb1⟩; have HX1 := More.trans HX (show More _ w1 from mC); have HB1 := HB _ HX1; have hz1 := More.size HX1; (try simp at hz1); have hb1 := hb1; rw [ratOk_encP KVp.out, Kp.out]))
    refine bodyPost_ret (v := .agg #[.bool false, .slice none 0 0, .slice none 0 0]) ?_ rfl ?_
    · simp [results, Tryz.results85, go_sem, *]
    · exact ⟨_, _, rfl, mC2, RatFr.at (RatFr.zero (B := 0))⟩
theorem spec_RatMinFB (f : Fr) (b : Bool) (up vp : Value) (g : Fr) (c : Bool) (uq vq : Value)  (w : World) (hb : decide (f.1 < 0) = b) (hc : decide (g.1 < 0) = c) (hp : RatAt w f up vp) (kp : Vd f) (hq : RatAt w g uq vq) (kq : Vd g) :
    Calls Tryz.prog 85 #[.agg #[.bool b, up, vp], .agg #[.bool c, uq, vq]] w fun e w' => ∃ x y, e = .returned (.agg #[.bool (decide ((minF f g).1 < 0)), x, y]) ∧ More w w' ∧ RatAt w' (minF f g) x y := by
  subst hb
  subst hc
  exact spec_RatMinF f up vp g uq vq w hp kp hq kq
set_option maxRecDepth 4000 in
set_option maxHeartbeats 6400000 in
theorem spec_RatMaxF (f : Fr) (up vp : Value) (g : Fr) (uq vq : Value) (w : World) (hp : RatAt w f up vp) (kp : Vd f) (hq : RatAt w g uq vq) (kq : Vd g) :
    Calls Tryz.prog 86 #[.agg #[.bool (decide (f.1 < 0)), up, vp], .agg #[.bool (decide (g.1 < 0)), uq, vq]] w fun e w' => ∃ x y, e = .returned (.agg #[.bool (decide ((maxF f g).1 < 0)), x, y]) ∧ More w w' ∧ RatAt w' (maxF f g) x y := by
  have KVp := Lib.hid kp; have KVq := Lib.hid kq
  by_cases hf0 : f.2 = 0
  rotate_left
  · by_cases hg0 : g.2 = 0
    rotate_left
    · refine (spec_RatMax [.bool (decide (f.1 < 0)), up, vp] (encR f) [.bool (decide (g.1 < 0)), uq, vq] (encR g) w (RatAt.out hp) (wRat_enc kp) (RatAt.out hq) (wRat_enc kq) (by rw [ratOk_encP kp]; exact decide_eq_true hf0) (by rw [ratOk_encP kq]; exact decide_eq_true hg0)).mono ?_
      rw [maxQ_enc kp kq hf0 hg0]
      rintro e w' ⟨u, v, rfl, h1, h2⟩
      refine ⟨u, v, rfl, h1, at_enc h2 (maxF_vd kp kq) ?_⟩
      unfold maxF
      rw [if_neg (fun k => k.elim hf0 hg0)]
      split <;> assumption
    · have Kp : Hid (decide (f.2 ≠ 0) = true) := Lib.hid (by simp [hf0])
      have Kq : Hid (decide (g.2 ≠ 0) = false) := Lib.hid (by simp [hg0])
      rw [maxF, if_pos (.inr hg0)]
      show Calls _ _ _ _ (fun e w' => ∃ x y, e = .returned (.agg #[.bool false, x, y]) ∧ More w w' ∧ RatAt w' (0, 0) x y)
      clear hf0 hg0
      obtain ⟨pa, pn, pc, pd, pm, pe, rfl, rfl, p1, p2⟩ := hp.shL
      have Hp1 := Lib.hid hp.1; have Hp2 := Lib.hid hp.2; have Hp := Lib.hid hp; have Lp1 := Lib.hid kp.sm1; have Lp2 := Lib.hid kp.sm2; have Np1 := Lib.hid p1; have Np2 := Lib.hid p2; clear hp p1 p2
      obtain ⟨s, zp⟩ : ∃ b, decide (f.1 < 0) = b := ⟨_, rfl⟩
      rw [zp]
      have Sp := Lib.hid zp; clear zp
      obtain ⟨qa, qn, qc, qd, qm, qe, rfl, rfl, q1, q2⟩ := hq.shL
      have Hq1 := Lib.hid hq.1; have Hq2 := Lib.hid hq.2; have Hq := Lib.hid hq; have Lq1 := Lib.hid kq.sm1; have Lq2 := Lib.hid kq.sm2; have Nq1 := Lib.hid q1; have Nq2 := Lib.hid q2; clear hq q1 q2
      obtain ⟨t, zq⟩ : ∃ b, decide (g.1 < 0) = b := ⟨_, rfl⟩
      rw [zq]
      have Sq := Lib.hid zq; clear zq
      have HX := More.refl (((w.alloc (.cells #[.bool s, .slice pa pn pc, .slice pd pm pe] 30)).alloc (.cells #[.bool t, .slice qa qn qc, .slice qd qm qe] 30)).alloc (.cells #[.bool false, .slice none 0 0, .slice none 0 0] 30))
      have HC := fun (w' : World) (h : Turns [w.heap.size + 1 + 1] (((w.alloc (.cells #[.bool s, .slice pa pn pc, .slice pd pm pe] 30)).alloc (.cells #[.bool t, .slice qa qn qc, .slice qd qm qe] 30)).alloc (.cells #[.bool false, .slice none 0 0, .slice none 0 0] 30)) w') => And.intro (bt3 (w.heap.size) (by simp) (More.un (More.un (More.refl _))) h (by simp <;> omega) (by simp <;> omega)) (bt3 (w.heap.size + 1) (by simp) (More.un (More.refl _)) h (by simp <;> omega) (by simp <;> omega))
      have HB := fun (w' : World) (h : More (((w.alloc (.cells #[.bool s, .slice pa pn pc, .slice pd pm pe] 30)).alloc (.cells #[.bool t, .slice qa qn qc, .slice qd qm qe] 30)).alloc (.cells #[.bool false, .slice none 0 0, .slice none 0 0] 30)) w') => And.intro (bx3 (w.heap.size) (by simp) (More.un (More.un h))) (And.intro (bx3 (w.heap.size + 1) (by simp) (More.un h)) (bx3 (w.heap.size + 1 + 1) (by simp) h))
      go_enter Tryz.func86, Tryz.ntmps86
      go_wp2_with (first | (go_at_call 119; (with_reducible refine (spec_RatOk s (.slice pa pn pc) (.slice pd pm pe) (encR f) _ (rat_of Hp.out Sp.out mC) (wRat_enc KVp.out)).mono ?_); rintro e w1 ⟨rfl, hb1⟩; have HX1 := More.trans HX (show More _ w1 from mC); have HB1 := HB _ HX1; have hz1 := More.size HX1; (try simp at hz1); have hb1 := hb1; rw [ratOk_encP KVp.out, Kp.out]) | (go_at_call 119; (with_reducible refine (spec_RatOk t (.slice qa qn qc) (.slice qd qm qe) (encR g) _ (rat_of Hq.out Sq.out mC) (wRat_enc KVq.out)).mono ?_); rintro e w2 ⟨rfl, hb2⟩; have HX2 := More.trans HX (show More _ w2 from mC); have HB2 := HB _ HX2; have hz2 := More.size HX2; (try simp at hz2); have hb2 := hb2; rw [ratOk_encP KVq.out, Kq.out]))
      refine bodyPost_ret (v := .agg #[.bool false, .slice none 0 0, .slice none 0 0]) ?_ rfl ?_
      · simp [results, Tryz.results86, go_sem, *]
      · exact ⟨_, _, rfl, mC2, RatFr.at (RatFr.zero (B := 0))⟩
  · have Kp : Hid (decide (f.2 ≠ 0) = false) := Lib.hid (by simp [hf0])
    rw [maxF, if_pos (.inl hf0)]
    show Calls _ _ _ _ (fun e w' => ∃ x y, e = .returned (.agg #[.bool false, x, y]) ∧ More w w' ∧ RatAt w' (0, 0) x y)
    clear hf0
    obtain ⟨pa, pn, pc, pd, pm, pe, rfl, rfl, p1, p2⟩ := hp.shL
    have Hp1 := Lib.hid hp.1; have Hp2 := Lib.hid hp.2; have Hp := Lib.hid hp; have Lp1 := Lib.hid kp.sm1; have Lp2 := Lib.hid kp.sm2; have Np1 := Lib.hid p1; have Np2 := Lib.hid p2; clear hp p1 p2
    obtain ⟨s, zp⟩ : ∃ b, decide (f.1 < 0) = b := ⟨_, rfl⟩
    rw [zp]
    have Sp := Lib.hid zp; clear zp
    obtain ⟨qa, qn, qc, qd, qm, qe, rfl, rfl, q1, q2⟩ := hq.shL
    have Hq1 := Lib.hid hq.1; have Hq2 := Lib.hid hq.2; have Hq := Lib.hid hq; have Lq1 := Lib.hid kq.sm1; have Lq2 := Lib.hid kq.sm2; have Nq1 := Lib.hid q1; have Nq2 := Lib.hid q2; clear hq q1 q2
    obtain ⟨t, zq⟩ : ∃ b, decide (g.1 < 0) = b := ⟨_, rfl⟩
    rw [zq]
    have Sq := Lib.hid zq; clear zq
    have HX := More.refl (((w.alloc (.cells #[.bool s, .slice pa pn pc, .slice pd pm pe] 30)).alloc (.cells #[.bool t, .slice qa qn qc, .slice qd qm qe] 30)).alloc (.cells #[.bool false, .slice none 0 0, .slice none 0 0] 30))
    have HC := fun (w' : World) (h : Turns [w.heap.size + 1 + 1] (((w.alloc (.cells #[.bool s, .slice pa pn pc, .slice pd pm pe] 30)).alloc (.cells #[.bool t, .slice qa qn qc, .slice qd qm qe] 30)).alloc (.cells #[.bool false, .slice none 0 0, .slice none 0 0] 30)) w') => And.intro (bt3 (w.heap.size) (by simp) (More.un (More.un (More.refl _))) h (by simp <;> omega) (by simp <;> omega)) (bt3 (w.heap.size + 1) (by simp) (More.un (More.refl _)) h (by simp <;> omega) (by simp <;> omega))
    have HB := fun (w' : World) (h : More (((w.alloc (.cells #[.bool s, .slice pa pn pc, .slice pd pm pe] 30)).alloc (.cells #[.bool t, .slice qa qn qc, .slice qd qm qe] 30)).alloc (.cells #[.bool false, .slice none 0 0, .slice none 0 0] 30)) w') => And.intro (bx3 (w.heap.size) (by simp) (More.un (More.un h))) (And.intro (bx3 (w.heap.size + 1) (by simp) (More.un h)) (bx3 (w.heap.size + 1 + 1) (by simp) h))
    go_enter Tryz.func86, Tryz.ntmps86
    go_wp2_with (first | (go_at_call 119; (with_reducible refine (spec_RatOk s (.slice pa pn pc) (.slice pd pm pe) (encR f) _ (rat_of Hp.out Sp.out mC) (wRat_enc KVp.out)).mono ?_); rintro e w1 ⟨rfl, hb1⟩; have HX1 := More.trans HX (show More _ w1 from mC); have HB1 := HB _ HX1; have hz1 := More.size HX1; (try simp at hz1); have hb1 := hb1; rw [ratOk_encP KVp.out, Kp.out]))
    refine bodyPost_ret (v := .agg #[.bool false, .slice none 0 0, .slice none 0 0]) ?_ rfl ?_
    · simp [results, Tryz.results86, go_sem, *]
    · exact ⟨_, _, rfl, mC2, RatFr.at (RatFr.zero (B := 0))⟩
theorem spec_RatMaxFB (f : Fr) (b : Bool) (up vp : Value) (g : Fr) (c : Bool) (uq vq : Value)  (w : World) (hb : decide (f.1 < 0) = b) (hc : decide (g.1 < 0) = c) (hp : RatAt w f up vp) (kp : Vd f) (hq : RatAt w g uq vq) (kq : Vd g) :
    Calls Tryz.prog 86 #[.agg #[.bool b, up, vp], .agg #[.bool c, uq, vq]] w fun e w' => ∃ x y, e = .returned (.agg #[.bool (decide ((maxF f g).1 < 0)), x, y]) ∧ More w w' ∧ RatAt w' (maxF f g) x y := by
  subst hb
  subst hc
  exact spec_RatMaxF f up vp g uq vq w hp kp hq kq
end Go.Proofs.YteihkhniibncnaaGreat
