/- Fractions: the program's differences, quotients, signs. -/
import Derived.Test.YtnbefpfijaimjaaGreatDoorGRt
import Derived.Test.YtnbefpfijaimjaaGreatDoorGInt
namespace Go.Proofs.YtnbefpfijaimjaaGreatDoor
open Go.RowKit
theorem sgn_flip (b : Bool) (m : Nat) : sgn (!b) m = -(sgn b m) := by cases b <;> simp [sgn]
theorem RatAt.neg {w : World} {f : Fr} {u v : Value} (h : RatAt w f u v) : RatAt w (frNeg f) u v := ⟨by show tInts.at w [u] (limbs (-f.1).natAbs); rw [Int.natAbs_neg]; exact h.1, h.2⟩
theorem impl_ratMulB (f : Fr) (b : Bool) (up vp : Value) (g : Fr) (c : Bool) (uq vq : Value)  (w : World) (hb : decide (f.1 < 0) = b) (hc : decide (g.1 < 0) = c) (hp : RatAt w f up vp) (kp : Vd f) (hq : RatAt w g uq vq) (kq : Vd g) :
    Calls Tryz.prog 74 #[.agg #[.bool b, up, vp], .agg #[.bool c, uq, vq]] w fun e w' => ∃ x y, e = .returned (.agg #[.bool (decide ((frMul f g).1 < 0)), x, y]) ∧ More w w' ∧ RatFr w.heap.size w' (frMul f g) x y := by
  subst hb
  subst hc
  exact impl_ratMul f up vp g uq vq w hp kp hq kq
theorem impl_ratAddB (f : Fr) (b : Bool) (up vp : Value) (g : Fr) (c : Bool) (uq vq : Value)  (w : World) (hb : decide (f.1 < 0) = b) (hc : decide (g.1 < 0) = c) (hp : RatAt w f up vp) (kp : Vd f) (hq : RatAt w g uq vq) (kq : Vd g) :
    Calls Tryz.prog 73 #[.agg #[.bool b, up, vp], .agg #[.bool c, uq, vq]] w fun e w' => ∃ x y, e = .returned (.agg #[.bool (decide ((frAdd f g).1 < 0)), x, y]) ∧ More w w' ∧ RatFr w.heap.size w' (frAdd f g) x y := by
  subst hb
  subst hc
  exact impl_ratAdd f up vp g uq vq w hp kp hq kq
set_option maxHeartbeats 1600000 in
theorem impl_bigNeg (z : Int) (s : Bool) (v : Value) (w : World) (hs : decide (z < 0) = s) (hv : tInts.at w [v] (limbs z.natAbs)) :
    Calls Tryz.prog 147 #[.agg #[.bool s, v]] w fun e w' => e = .returned (.agg #[.bool (decide (-z < 0)), v]) ∧ More w w' := by
  obtain ⟨xa, xn, xc, rfl⟩ := sh1 hv
  have HV := Lib.hid hv; clear hv
  have E : Hid (decide (sgn (!s) z.natAbs < 0) = decide (-z < 0)) := Lib.hid (by rw [sgn_flip, sgn_of hs])
  have HC : ∀ w', Turns [w.heap.size + 1] ((w.alloc (.cells #[.bool s, .slice xa xn xc] 24)).alloc (.cells #[.bool false, .slice none 0 0] 24)) w' → w'.cell? ⟨w.heap.size, 0, none⟩ = some (.bool s) ∧ w'.cell? ⟨w.heap.size, 1, none⟩ = some (.slice xa xn xc) := fun w' h => ⟨cell_heap (box_new (by simp) (More.un (More.refl _)) 0) (h.block _ (by simp <;> omega) (by simp <;> omega)), cell_heap (box_new (by simp) (More.un (More.refl _)) 1) (h.block _ (by simp <;> omega) (by simp <;> omega))⟩
  have HX : More ((w.alloc (.cells #[.bool s, .slice xa xn xc] 24)).alloc (.cells #[.bool false, .slice none 0 0] 24)) ((w.alloc (.cells #[.bool s, .slice xa xn xc] 24)).alloc (.cells #[.bool false, .slice none 0 0] 24)) := More.refl _
  have HB : ∀ w', More ((w.alloc (.cells #[.bool s, .slice xa xn xc] 24)).alloc (.cells #[.bool false, .slice none 0 0] 24)) w' → w'.cell? ⟨w.heap.size, 0, none⟩ = some (.bool s) ∧ w'.cell? ⟨w.heap.size, 1, none⟩ = some (.slice xa xn xc) ∧ (∀ j, w'.frozen? ⟨w.heap.size, j, none⟩ = false) ∧ w'.cell? ⟨w.heap.size + 1, 0, none⟩ = some (.bool false) ∧ w'.cell? ⟨w.heap.size + 1, 1, none⟩ = some (.slice none 0 0) ∧ (∀ j, w'.frozen? ⟨w.heap.size + 1, j, none⟩ = false) := fun w' h => ⟨box_new (by simp) (More.un h) 0, box_new (by simp) (More.un h) 1, fun j => box_free (by simp) (More.un h) j, box_new (by simp) h 0, box_new (by simp) h 1, fun j => box_free (by simp) h j⟩
  go_enter Tryz.func147, Tryz.ntmps147
  go_wp2_with (first | (go_at_call 140; refine (impl_bigMake _ _ z.natAbs _ (Ty.at_more HV.out mC)).mono ?_; rintro e w1 ⟨rfl, hb1⟩; rw [E.out]; have HX1 : More ((w.alloc (.cells #[.bool s, .slice xa xn xc] 24)).alloc (.cells #[.bool false, .slice none 0 0] 24)) w1 := mC; have HB1 := HB _ HX1; have hz1 := More.size HX1; (try simp at hz1); have hb1 := hb1))
  refine bodyPost_ret (v := .agg #[.bool (decide (-z < 0)), .slice xa xn xc]) ?_ rfl ⟨rfl, mC2⟩
  simp [results, Tryz.results147, go_sem, *]
set_option maxRecDepth 4000 in
set_option maxHeartbeats 3200000 in
theorem impl_ratNeg (f : Fr) (up vp : Value) (w : World) (hp : RatAt w f up vp) (kp : Vd f) :
    Calls Tryz.prog 109 #[.agg #[.bool (decide (f.1 < 0)), up, vp]] w fun e w' => e = .returned (.agg #[.bool (decide ((frNeg f).1 < 0)), up, vp]) ∧ More w w' := by
  obtain ⟨pa, pn, pc, pd, pm, pe, rfl, rfl, p1, p2⟩ := hp.shL
  have Hp1 := Lib.hid hp.1; have Hp2 := Lib.hid hp.2; have Hp := Lib.hid hp; have Lp1 := Lib.hid kp.sm1; have Lp2 := Lib.hid kp.sm2; have Np1 := Lib.hid p1; have Np2 := Lib.hid p2; clear hp p1 p2
  obtain ⟨s, zp⟩ : ∃ b, decide (f.1 < 0) = b := ⟨_, rfl⟩
  rw [zp]
  have Sp := Lib.hid zp; clear zp
  have EN : Hid (decide (-f.1 < 0) = decide ((frNeg f).1 < 0)) := Lib.hid rfl
  have HC : ∀ w', Turns [w.heap.size + 1] ((w.alloc (.cells #[.bool s, .slice pa pn pc, .slice pd pm pe] 26)).alloc (.cells #[.bool false, .slice none 0 0, .slice none 0 0] 26)) w' → w'.cell? ⟨w.heap.size, 0, none⟩ = some (.bool s) ∧ w'.cell? ⟨w.heap.size, 1, none⟩ = some (.slice pa pn pc) ∧ w'.cell? ⟨w.heap.size, 2, none⟩ = some (.slice pd pm pe) := fun w' h => ⟨cell_heap (box_new (by simp) (More.un (More.refl _)) 0) (h.block _ (by simp <;> omega) (by simp <;> omega)), cell_heap (box_new (by simp) (More.un (More.refl _)) 1) (h.block _ (by simp <;> omega) (by simp <;> omega)), cell_heap (box_new (by simp) (More.un (More.refl _)) 2) (h.block _ (by simp <;> omega) (by simp <;> omega))⟩
  have HX : More ((w.alloc (.cells #[.bool s, .slice pa pn pc, .slice pd pm pe] 26)).alloc (.cells #[.bool false, .slice none 0 0, .slice none 0 0] 26)) ((w.alloc (.cells #[.bool s, .slice pa pn pc, .slice pd pm pe] 26)).alloc (.cells #[.bool false, .slice none 0 0, .slice none 0 0] 26)) := More.refl _
  have HB : ∀ w', More ((w.alloc (.cells #[.bool s, .slice pa pn pc, .slice pd pm pe] 26)).alloc (.cells #[.bool false, .slice none 0 0, .slice none 0 0] 26)) w' → w'.cell? ⟨w.heap.size, 0, none⟩ = some (.bool s) ∧ w'.cell? ⟨w.heap.size, 1, none⟩ = some (.slice pa pn pc) ∧ w'.cell? ⟨w.heap.size, 2, none⟩ = some (.slice pd pm pe) ∧ (∀ j, w'.frozen? ⟨w.heap.size, j, none⟩ = false) ∧ w'.cell? ⟨w.heap.size + 1, 0, none⟩ = some (.bool false) ∧ w'.cell? ⟨w.heap.size + 1, 1, none⟩ = some (.slice none 0 0) ∧ w'.cell? ⟨w.heap.size + 1, 2, none⟩ = some (.slice none 0 0) ∧ (∀ j, w'.frozen? ⟨w.heap.size + 1, j, none⟩ = false) := fun w' h => ⟨box_new (by simp) (More.un h) 0, box_new (by simp) (More.un h) 1, box_new (by simp) (More.un h) 2, fun j => box_free (by simp) (More.un h) j, box_new (by simp) h 0, box_new (by simp) h 1, box_new (by simp) h 2, fun j => box_free (by simp) h j⟩
  go_enter Tryz.func109, Tryz.ntmps109
  go_wp2_with fail
  go_region_held3 (fun w' => Turns [w.heap.size + 1] ((w.alloc (.cells #[.bool s, .slice pa pn pc, .slice pd pm pe] 26)).alloc (.cells #[.bool false, .slice none 0 0, .slice none 0 0] 26)) w') (first | exact tC | exact mC2) (first | (go_at_call 147; (with_reducible refine (impl_bigNeg f.1 s (.slice pa pn pc) _ Sp.out (Ty.at_more Hp1.out mC)).mono ?_); rintro e w1 ⟨rfl, hb1⟩; rw [EN.out]; have HX1 : More ((w.alloc (.cells #[.bool s, .slice pa pn pc, .slice pd pm pe] 26)).alloc (.cells #[.bool false, .slice none 0 0, .slice none 0 0] 26)) w1 := mC; have HB1 := HB _ HX1; have hz1 := More.size HX1; (try simp at hz1); have hb1 := hb1))
  all_goals
    go_wp2_with fail
    refine bodyPost_ret (v := .agg #[.bool (decide ((frNeg f).1 < 0)), .slice pa pn pc, .slice pd pm pe]) ?_ rfl ⟨rfl, mC2⟩
    simp [results, Tryz.results109, go_sem, *]
theorem impl_ratNegB (f : Fr) (b : Bool) (up vp : Value)  (w : World) (hb : decide (f.1 < 0) = b) (hp : RatAt w f up vp) (kp : Vd f) :
    Calls Tryz.prog 109 #[.agg #[.bool b, up, vp]] w fun e w' => e = .returned (.agg #[.bool (decide ((frNeg f).1 < 0)), up, vp]) ∧ More w w' := by
  subst hb
  exact impl_ratNeg f up vp w hp kp
set_option maxRecDepth 4000 in
set_option maxHeartbeats 6400000 in
theorem impl_ratSub (f : Fr) (up vp : Value) (g : Fr) (uq vq : Value) (w : World) (hp : RatAt w f up vp) (kp : Vd f) (hq : RatAt w g uq vq) (kq : Vd g) :
    Calls Tryz.prog 75 #[.agg #[.bool (decide (f.1 < 0)), up, vp], .agg #[.bool (decide (g.1 < 0)), uq, vq]] w fun e w' => ∃ x y, e = .returned (.agg #[.bool (decide ((frSub f g).1 < 0)), x, y]) ∧ More w w' ∧ RatFr w.heap.size w' (frSub f g) x y := by
  obtain ⟨pa, pn, pc, pd, pm, pe, rfl, rfl, p1, p2⟩ := hp.shL
  have Hp1 := Lib.hid hp.1; have Hp2 := Lib.hid hp.2; have Hp := Lib.hid hp; have Lp1 := Lib.hid kp.sm1; have Lp2 := Lib.hid kp.sm2; have Np1 := Lib.hid p1; have Np2 := Lib.hid p2; clear hp p1 p2
  obtain ⟨s, zp⟩ : ∃ b, decide (f.1 < 0) = b := ⟨_, rfl⟩
  rw [zp]
  have Sp := Lib.hid zp; clear zp
  obtain ⟨qa, qn, qc, qd, qm, qe, rfl, rfl, q1, q2⟩ := hq.shL
  have Hq1 := Lib.hid hq.1; have Hq2 := Lib.hid hq.2; have Hq := Lib.hid hq; have Lq1 := Lib.hid kq.sm1; have Lq2 := Lib.hid kq.sm2; have Nq1 := Lib.hid q1; have Nq2 := Lib.hid q2; clear hq q1 q2
  obtain ⟨t, zq⟩ : ∃ b, decide (g.1 < 0) = b := ⟨_, rfl⟩
  rw [zq]
  have Sq := Lib.hid zq; clear zq
  have Vp := Lib.hid kp; have Vq := Lib.hid kq; have Vn := Lib.hid (frNeg_vd kq); clear kp kq
  rw [frSub]
  have HC : ∀ w', Turns [w.heap.size + 1 + 1] (((w.alloc (.cells #[.bool s, .slice pa pn pc, .slice pd pm pe] 26)).alloc (.cells #[.bool t, .slice qa qn qc, .slice qd qm qe] 26)).alloc (.cells #[.bool false, .slice none 0 0, .slice none 0 0] 26)) w' → w'.cell? ⟨w.heap.size, 0, none⟩ = some (.bool s) ∧ w'.cell? ⟨w.heap.size, 1, none⟩ = some (.slice pa pn pc) ∧ w'.cell? ⟨w.heap.size, 2, none⟩ = some (.slice pd pm pe) ∧ w'.cell? ⟨w.heap.size + 1, 0, none⟩ = some (.bool t) ∧ w'.cell? ⟨w.heap.size + 1, 1, none⟩ = some (.slice qa qn qc) ∧ w'.cell? ⟨w.heap.size + 1, 2, none⟩ = some (.slice qd qm qe) := fun w' h => ⟨cell_heap (box_new (by simp) (More.un (More.un (More.refl _))) 0) (h.block _ (by simp <;> omega) (by simp <;> omega)), cell_heap (box_new (by simp) (More.un (More.un (More.refl _))) 1) (h.block _ (by simp <;> omega) (by simp <;> omega)), cell_heap (box_new (by simp) (More.un (More.un (More.refl _))) 2) (h.block _ (by simp <;> omega) (by simp <;> omega)), cell_heap (box_new (by simp) (More.un (More.refl _)) 0) (h.block _ (by simp <;> omega) (by simp <;> omega)), cell_heap (box_new (by simp) (More.un (More.refl _)) 1) (h.block _ (by simp <;> omega) (by simp <;> omega)), cell_heap (box_new (by simp) (More.un (More.refl _)) 2) (h.block _ (by simp <;> omega) (by simp <;> omega))⟩
  have HX : More (((w.alloc (.cells #[.bool s, .slice pa pn pc, .slice pd pm pe] 26)).alloc (.cells #[.bool t, .slice qa qn qc, .slice qd qm qe] 26)).alloc (.cells #[.bool false, .slice none 0 0, .slice none 0 0] 26)) (((w.alloc (.cells #[.bool s, .slice pa pn pc, .slice pd pm pe] 26)).alloc (.cells #[.bool t, .slice qa qn qc, .slice qd qm qe] 26)).alloc (.cells #[.bool false, .slice none 0 0, .slice none 0 0] 26)) := More.refl _
  have HB : ∀ w', More (((w.alloc (.cells #[.bool s, .slice pa pn pc, .slice pd pm pe] 26)).alloc (.cells #[.bool t, .slice qa qn qc, .slice qd qm qe] 26)).alloc (.cells #[.bool false, .slice none 0 0, .slice none 0 0] 26)) w' → w'.cell? ⟨w.heap.size, 0, none⟩ = some (.bool s) ∧ w'.cell? ⟨w.heap.size, 1, none⟩ = some (.slice pa pn pc) ∧ w'.cell? ⟨w.heap.size, 2, none⟩ = some (.slice pd pm pe) ∧ (∀ j, w'.frozen? ⟨w.heap.size, j, none⟩ = false) ∧ w'.cell? ⟨w.heap.size + 1, 0, none⟩ = some (.bool t) ∧ w'.cell? ⟨w.heap.size + 1, 1, none⟩ = some (.slice qa qn qc) ∧ w'.cell? ⟨w.heap.size + 1, 2, none⟩ = some (.slice qd qm qe) ∧ (∀ j, w'.frozen? ⟨w.heap.size + 1, j, none⟩ = false) ∧ w'.cell? ⟨w.heap.size + 1 + 1, 0, none⟩ = some (.bool false) ∧ w'.cell? ⟨w.heap.size + 1 + 1, 1, none⟩ = some (.slice none 0 0) ∧ w'.cell? ⟨w.heap.size + 1 + 1, 2, none⟩ = some (.slice none 0 0) ∧ (∀ j, w'.frozen? ⟨w.heap.size + 1 + 1, j, none⟩ = false) := fun w' h => ⟨box_new (by simp) (More.un (More.un h)) 0, box_new (by simp) (More.un (More.un h)) 1, box_new (by simp) (More.un (More.un h)) 2, fun j => box_free (by simp) (More.un (More.un h)) j, box_new (by simp) (More.un h) 0, box_new (by simp) (More.un h) 1, box_new (by simp) (More.un h) 2, fun j => box_free (by simp) (More.un h) j, box_new (by simp) h 0, box_new (by simp) h 1, box_new (by simp) h 2, fun j => box_free (by simp) h j⟩
  go_enter Tryz.func75, Tryz.ntmps75
  go_wp2_with fail
  go_region_held3 (fun w' => Turns [w.heap.size + 1 + 1] (((w.alloc (.cells #[.bool s, .slice pa pn pc, .slice pd pm pe] 26)).alloc (.cells #[.bool t, .slice qa qn qc, .slice qd qm qe] 26)).alloc (.cells #[.bool false, .slice none 0 0, .slice none 0 0] 26)) w') (first | exact tC | exact mC2) (first | (go_at_call 109; (with_reducible refine (impl_ratNegB g t (.slice qa qn qc) (.slice qd qm qe) _ Sq.out (RatAt.more Hq.out mC) Vq.out).mono ?_); rintro e w1 ⟨rfl, hb1⟩; have HX1 : More (((w.alloc (.cells #[.bool s, .slice pa pn pc, .slice pd pm pe] 26)).alloc (.cells #[.bool t, .slice qa qn qc, .slice qd qm qe] 26)).alloc (.cells #[.bool false, .slice none 0 0, .slice none 0 0] 26)) w1 := mC; have HB1 := HB _ HX1; have hz1 := More.size HX1; (try simp at hz1); have hb1 := hb1) | (go_at_call 73; (with_reducible refine (impl_ratAddB f s (.slice pa pn pc) (.slice pd pm pe) (frNeg g) _ (.slice qa qn qc) (.slice qd qm qe) _ Sp.out rfl (RatAt.more Hp.out mC) Vp.out (RatAt.neg (RatAt.more Hq.out mC)) Vn.out).mono ?_); rintro e w2 ⟨x2, y2, rfl, hb2, f2⟩; obtain ⟨r2a, r2n, r2c, r2d, r2m, r2e, rfl, rfl⟩ := f2.at.sh; have F2 : Hid (RatFr (((w.alloc (.cells #[.bool s, .slice pa pn pc, .slice pd pm pe] 26)).alloc (.cells #[.bool t, .slice qa qn qc, .slice qd qm qe] 26)).alloc (.cells #[.bool false, .slice none 0 0, .slice none 0 0] 26)).heap.size w2 (frAdd f (frNeg g)) _ _) := Lib.hid (RatFr.mono f2 (More.size mC)); clear f2; have HX2 : More (((w.alloc (.cells #[.bool s, .slice pa pn pc, .slice pd pm pe] 26)).alloc (.cells #[.bool t, .slice qa qn qc, .slice qd qm qe] 26)).alloc (.cells #[.bool false, .slice none 0 0, .slice none 0 0] 26)) w2 := mC; have HB2 := HB _ HX2; have hz2 := More.size HX2; (try simp at hz2); have hb2 := hb2))
  all_goals
    go_wp2_with fail
    refine bodyPost_ret (v := .agg #[.bool (decide ((frAdd f (frNeg g)).1 < 0)), .slice r2a r2n r2c, .slice r2d r2m r2e]) ?_ rfl ?_
    · simp [results, Tryz.results75, go_sem, *]
    · exact ⟨_, _, rfl, mC2, (F2.out.turns (bs := [w.heap.size + 1 + 1]) tC (by simp)).mono (by simp; try omega)⟩
theorem impl_ratSubB (f : Fr) (b : Bool) (up vp : Value) (g : Fr) (c : Bool) (uq vq : Value)  (w : World) (hb : decide (f.1 < 0) = b) (hc : decide (g.1 < 0) = c) (hp : RatAt w f up vp) (kp : Vd f) (hq : RatAt w g uq vq) (kq : Vd g) :
    Calls Tryz.prog 75 #[.agg #[.bool b, up, vp], .agg #[.bool c, uq, vq]] w fun e w' => ∃ x y, e = .returned (.agg #[.bool (decide ((frSub f g).1 < 0)), x, y]) ∧ More w w' ∧ RatFr w.heap.size w' (frSub f g) x y := by
  subst hb
  subst hc
  exact impl_ratSub f up vp g uq vq w hp kp hq kq
set_option maxRecDepth 4000 in
set_option maxHeartbeats 3200000 in
theorem impl_ratSign (f : Fr) (up vp : Value) (w : World) (hp : RatAt w f up vp) (kp : Vd f) :
    Calls Tryz.prog 76 #[.agg #[.bool (decide (f.1 < 0)), up, vp]] w fun e w' => e = .returned (.int .i64 (frSign f)) ∧ More w w' := by
  obtain ⟨pa, pn, pc, pd, pm, pe, rfl, rfl, p1, p2⟩ := hp.shL
  have Hp1 := Lib.hid hp.1; have Hp2 := Lib.hid hp.2; have Hp := Lib.hid hp; have Lp1 := Lib.hid kp.sm1; have Lp2 := Lib.hid kp.sm2; have Np1 := Lib.hid p1; have Np2 := Lib.hid p2; clear hp p1 p2
  obtain ⟨s, zp⟩ : ∃ b, decide (f.1 < 0) = b := ⟨_, rfl⟩
  rw [zp]
  have Sp := Lib.hid zp; clear zp
  by_cases hf0 : f.2 = 0
  · have Kp : Hid (decide (f.2 ≠ 0) = false) := Lib.hid (by simp [hf0])
    rw [frSign, if_pos hf0]
    clear hf0
    have HX : More (w.alloc (.cells #[.bool s, .slice pa pn pc, .slice pd pm pe] 26)) (w.alloc (.cells #[.bool s, .slice pa pn pc, .slice pd pm pe] 26)) := More.refl _
    have HB : ∀ w', More (w.alloc (.cells #[.bool s, .slice pa pn pc, .slice pd pm pe] 26)) w' → w'.cell? ⟨w.heap.size, 0, none⟩ = some (.bool s) ∧ w'.cell? ⟨w.heap.size, 1, none⟩ = some (.slice pa pn pc) ∧ w'.cell? ⟨w.heap.size, 2, none⟩ = some (.slice pd pm pe) ∧ (∀ j, w'.frozen? ⟨w.heap.size, j, none⟩ = false) := fun w' h => ⟨box_new (by simp) h 0, box_new (by simp) h 1, box_new (by simp) h 2, fun j => box_free (by simp) h j⟩
    have HC := fun (w' : World) (h : Turns [] (w.alloc (.cells #[.bool s, .slice pa pn pc, .slice pd pm pe] 26)) w') => HB w' (Turns.more h)
    go_enter Tryz.func76, Tryz.ntmps76
    go_wp2_with (first | (go_at_call 104; (with_reducible refine (impl_isGood s f (.slice pa pn pc) (.slice pd pm pe) _ (Hp.out.more mC)).mono ?_); rintro e w1 ⟨rfl, hb1⟩; have HX1 : More (w.alloc (.cells #[.bool s, .slice pa pn pc, .slice pd pm pe] 26)) w1 := mC; have HB1 := HB _ HX1; have hz1 := More.size HX1; (try simp at hz1); have hb1 := hb1; rw [Kp.out]))
    go_ret
    exact ⟨rfl, mC⟩
  have Kp : Hid (decide (f.2 ≠ 0) = true) := Lib.hid (by simp [hf0])
  rw [frSign, if_neg hf0]
  clear hf0
  obtain ⟨z, hz⟩ : ∃ z, f.1 = z := ⟨_, rfl⟩
  by_cases h1 : z = 0
  · have : pn = 0 := by rw [Np1.out, hz, h1]; simp [limbs_zero]
    subst this
    rw [hz, h1, show cmpI (0 : Int) 0 = 0 from rfl]
    clear hz h1
    have HX : More (w.alloc (.cells #[.bool s, .slice pa 0 pc, .slice pd pm pe] 26)) (w.alloc (.cells #[.bool s, .slice pa 0 pc, .slice pd pm pe] 26)) := More.refl _
    have HB : ∀ w', More (w.alloc (.cells #[.bool s, .slice pa 0 pc, .slice pd pm pe] 26)) w' → w'.cell? ⟨w.heap.size, 0, none⟩ = some (.bool s) ∧ w'.cell? ⟨w.heap.size, 1, none⟩ = some (.slice pa 0 pc) ∧ w'.cell? ⟨w.heap.size, 2, none⟩ = some (.slice pd pm pe) ∧ (∀ j, w'.frozen? ⟨w.heap.size, j, none⟩ = false) := fun w' h => ⟨box_new (by simp) h 0, box_new (by simp) h 1, box_new (by simp) h 2, fun j => box_free (by simp) h j⟩
    have HC := fun (w' : World) (h : Turns [] (w.alloc (.cells #[.bool s, .slice pa 0 pc, .slice pd pm pe] 26)) w') => HB w' (Turns.more h)
    go_enter Tryz.func76, Tryz.ntmps76
    go_wp2_with (first | (go_at_call 104; (with_reducible refine (impl_isGood s f (.slice pa 0 pc) (.slice pd pm pe) _ (Hp.out.more mC)).mono ?_); rintro e w1 ⟨rfl, hb1⟩; have HX1 : More (w.alloc (.cells #[.bool s, .slice pa 0 pc, .slice pd pm pe] 26)) w1 := mC; have HB1 := HB _ HX1; have hz1 := More.size HX1; (try simp at hz1); have hb1 := hb1; rw [Kp.out]))
    go_ret
    exact ⟨rfl, mC⟩
  have hpn : pn ≠ 0 := by rw [Np1.out, hz]; intro e; exact h1 (Int.natAbs_eq_zero.1 (limbs_nil.1 (List.eq_nil_of_length_eq_zero e)))
  have hpn' : (0 : Int) < (pn : Int) := by omega
  have hpb : ((pn : Int) == 0) = false := by simp; omega
  rcases (show z < 0 ∨ 0 ≤ z by omega) with h2 | h2
  · have hs : s = true := by rw [← Sp.out, hz]; exact decide_eq_true h2
    subst hs
    rw [hz, show cmpI z 0 = -1 from by unfold cmpI; rw [if_pos h2]]
    clear hz h1 h2
    have HX : More (w.alloc (.cells #[.bool true, .slice pa pn pc, .slice pd pm pe] 26)) (w.alloc (.cells #[.bool true, .slice pa pn pc, .slice pd pm pe] 26)) := More.refl _
    have HB : ∀ w', More (w.alloc (.cells #[.bool true, .slice pa pn pc, .slice pd pm pe] 26)) w' → w'.cell? ⟨w.heap.size, 0, none⟩ = some (.bool true) ∧ w'.cell? ⟨w.heap.size, 1, none⟩ = some (.slice pa pn pc) ∧ w'.cell? ⟨w.heap.size, 2, none⟩ = some (.slice pd pm pe) ∧ (∀ j, w'.frozen? ⟨w.heap.size, j, none⟩ = false) := fun w' h => ⟨box_new (by simp) h 0, box_new (by simp) h 1, box_new (by simp) h 2, fun j => box_free (by simp) h j⟩
    have HC := fun (w' : World) (h : Turns [] (w.alloc (.cells #[.bool true, .slice pa pn pc, .slice pd pm pe] 26)) w') => HB w' (Turns.more h)
    go_enter Tryz.func76, Tryz.ntmps76
    go_wp2_with (first | (go_at_call 104; (with_reducible refine (impl_isGood true f (.slice pa pn pc) (.slice pd pm pe) _ (Hp.out.more mC)).mono ?_); rintro e w1 ⟨rfl, hb1⟩; have HX1 : More (w.alloc (.cells #[.bool true, .slice pa pn pc, .slice pd pm pe] 26)) w1 := mC; have HB1 := HB _ HX1; have hz1 := More.size HX1; (try simp at hz1); have hb1 := hb1; rw [Kp.out]))
    go_ret
    exact ⟨rfl, mC⟩
  have hs : s = false := by rw [← Sp.out, hz]; exact decide_eq_false (by omega)
  subst hs
  rw [hz, show cmpI z 0 = 1 from by unfold cmpI; rw [if_neg (by omega), if_pos (by omega)]]
  clear hz h1 h2
  have HX : More (w.alloc (.cells #[.bool false, .slice pa pn pc, .slice pd pm pe] 26)) (w.alloc (.cells #[.bool false, .slice pa pn pc, .slice pd pm pe] 26)) := More.refl _
  have HB : ∀ w', More (w.alloc (.cells #[.bool false, .slice pa pn pc, .slice pd pm pe] 26)) w' → w'.cell? ⟨w.heap.size, 0, none⟩ = some (.bool false) ∧ w'.cell? ⟨w.heap.size, 1, none⟩ = some (.slice pa pn pc) ∧ w'.cell? ⟨w.heap.size, 2, none⟩ = some (.slice pd pm pe) ∧ (∀ j, w'.frozen? ⟨w.heap.size, j, none⟩ = false) := fun w' h => ⟨box_new (by simp) h 0, box_new (by simp) h 1, box_new (by simp) h 2, fun j => box_free (by simp) h j⟩
  have HC := fun (w' : World) (h : Turns [] (w.alloc (.cells #[.bool false, .slice pa pn pc, .slice pd pm pe] 26)) w') => HB w' (Turns.more h)
  go_enter Tryz.func76, Tryz.ntmps76
  go_wp2_with (first | (go_at_call 104; (with_reducible refine (impl_isGood false f (.slice pa pn pc) (.slice pd pm pe) _ (Hp.out.more mC)).mono ?_); rintro e w1 ⟨rfl, hb1⟩; have HX1 : More (w.alloc (.cells #[.bool false, .slice pa pn pc, .slice pd pm pe] 26)) w1 := mC; have HB1 := HB _ HX1; have hz1 := More.size HX1; (try simp at hz1); have hb1 := hb1; rw [Kp.out]))
  go_ret
  exact ⟨rfl, mC⟩
theorem impl_ratSignB (f : Fr) (b : Bool) (up vp : Value)  (w : World) (hb : decide (f.1 < 0) = b) (hp : RatAt w f up vp) (kp : Vd f) :
    Calls Tryz.prog 76 #[.agg #[.bool b, up, vp]] w fun e w' => e = .returned (.int .i64 (frSign f)) ∧ More w w' := by
  subst hb
  exact impl_ratSign f up vp w hp kp
theorem div_sign {x y : Int} {t : Bool} {d : Nat} (ht : decide (y < 0) = t) :
    decide (sgn (decide (x * (d : Int) < 0) != t) (x * (d : Int)).natAbs < 0) = decide (sgn (decide (x < 0) != decide (y < 0)) (x.natAbs * d) < 0) := by
  rw [Int.natAbs_mul, Int.natAbs_natCast, ht]
  by_cases h0 : x.natAbs * d = 0
  · rw [h0]
    simp [sgn]
  · have hd : 0 < d := Nat.pos_of_ne_zero (fun e => h0 (by rw [e, Nat.mul_zero]))
    have hx : decide (x * (d : Int) < 0) = decide (x < 0) := by
      have hd' : (0 : Int) < (d : Int) := by omega
      by_cases h : x < 0
      · rw [decide_eq_true h, decide_eq_true (Int.mul_neg_of_neg_of_pos h hd')]
      · rw [decide_eq_false h, decide_eq_false (by have := Int.mul_nonneg (Int.not_lt.1 h) (Int.le_of_lt hd'); omega)]
    rw [hx]
end Go.Proofs.YtnbefpfijaimjaaGreatDoor
