/- Copies of points. -/
import Derived.Test.YteihkhniibncnaaThn
import Derived.Test.YteihkhniibncnaaCsd
namespace Go.Proofs.Yteihkhniibncnaa
open Go.RowKit
set_option maxRecDepth 8000 in
set_option maxHeartbeats 12800000 in
theorem impl_ownPoint (cs0 : List Value) (p q : QR) (w : World) (hv0 : tPoint.at w cs0 (p, q)) (hw0 : wPoint (p, q) ≤ 1048576) :
    Calls Try.prog 70 #[.agg cs0.toArray] w fun e w' => ∃ cs : List Value, e = .returned (.agg cs.toArray) ∧ More w w' ∧ tPoint.fresh w.heap.size w' cs (p, q) := by
  obtain ⟨k0, d0, rfl, f0, e0⟩ := at_prod hv0
  have f1 := e0; clear e0
  have f0 : tRat.at w _ p := f0
  obtain ⟨pa, pn, pc, pd, pm, pe, rfl⟩ := sh_Rat f0
  have Hp := Lib.hid f0; clear f0
  try clear f0
  have Wp : Hid (wRat p ≤ 1048576) := Lib.hid (by have h := hw0; unfold wPoint at h; dsimp only at h; omega)
  have f1 : tRat.at w _ q := f1
  obtain ⟨qa, qn, qc, qd, qm, qe, rfl⟩ := sh_Rat f1
  have Hq := Lib.hid f1; clear f1
  try clear f1
  have Wq : Hid (wRat q ≤ 1048576) := Lib.hid (by have h := hw0; unfold wPoint at h; dsimp only at h; omega)
  try clear e0 e1
  have HV0 : Hid (tPoint.at w [.bool p.1.1, .slice pa pn pc, .slice pd pm pe, .bool q.1.1, .slice qa qn qc, .slice qd qm qe] (p, q)) := Lib.hid hv0; have HW0 := Lib.hid hw0; clear hv0 hw0
  show Calls Try.prog 70 #[.agg #[.bool p.1.1, .slice pa pn pc, .slice pd pm pe, .bool q.1.1, .slice qa qn qc, .slice qd qm qe]] w _
  have HX := More.refl ((w.alloc (.cells #[.bool p.1.1, .slice pa pn pc, .slice pd pm pe, .bool q.1.1, .slice qa qn qc, .slice qd qm qe] 55)).alloc (.cells #[.bool false, .slice none 0 0, .slice none 0 0, .bool false, .slice none 0 0, .slice none 0 0] 55))
  have HC := fun (w' : World) (h : Turns [w.heap.size + 1] ((w.alloc (.cells #[.bool p.1.1, .slice pa pn pc, .slice pd pm pe, .bool q.1.1, .slice qa qn qc, .slice qd qm qe] 55)).alloc (.cells #[.bool false, .slice none 0 0, .slice none 0 0, .bool false, .slice none 0 0, .slice none 0 0] 55)) w') => bt6 (w.heap.size) (by simp) (More.un (More.refl _)) h (by simp <;> omega) (by simp <;> omega)
  have HB := fun (w' : World) (h : More ((w.alloc (.cells #[.bool p.1.1, .slice pa pn pc, .slice pd pm pe, .bool q.1.1, .slice qa qn qc, .slice qd qm qe] 55)).alloc (.cells #[.bool false, .slice none 0 0, .slice none 0 0, .bool false, .slice none 0 0, .slice none 0 0] 55)) w') => And.intro (bx6 (w.heap.size) (by simp) (More.un h)) (bx6 (w.heap.size + 1) (by simp) h)
  go_enter Try.func70, Try.ntmps70
  go_wp2_with fail
  go_region_held3 (fun w' => Turns [w.heap.size + 1] ((w.alloc (.cells #[.bool p.1.1, .slice pa pn pc, .slice pd pm pe, .bool q.1.1, .slice qa qn qc, .slice qd qm qe] 55)).alloc (.cells #[.bool false, .slice none 0 0, .slice none 0 0, .bool false, .slice none 0 0, .slice none 0 0] 55)) w') (first | exact tC | exact mC2) (first | (go_at_call 58; (with_reducible refine (impl_ownRat [.bool p.1.1, .slice pa pn pc, .slice pd pm pe] p _ (Ty.at_more Hp.out mC) Wp.out).mono ?_); rintro e w1 ⟨u1, v1, rfl, hb1, f1⟩; obtain ⟨r1a, r1n, r1c, r1d, r1m, r1e, e9⟩ := sh_Rat (Ty.fresh_at f1); simp only [List.cons.injEq, and_true, true_and] at e9; obtain ⟨e8, e9⟩ := e9; subst e8; subst e9; have F1 := Lib.hid f1; clear f1; have HX1 := More.trans HX (show More _ w1 from mC); have HB1 := HB _ HX1; have hz1 := More.size HX1; (try simp at hz1); have hb1 := hb1) | (go_at_call 58; (with_reducible refine (impl_ownRat [.bool q.1.1, .slice qa qn qc, .slice qd qm qe] q _ (Ty.at_more Hq.out mC) Wq.out).mono ?_); rintro e w2 ⟨u2, v2, rfl, hb2, f2⟩; obtain ⟨r2a, r2n, r2c, r2d, r2m, r2e, e9⟩ := sh_Rat (Ty.fresh_at f2); simp only [List.cons.injEq, and_true, true_and] at e9; obtain ⟨e8, e9⟩ := e9; subst e8; subst e9; have F2 := Lib.hid f2; clear f2; have HX2 := More.trans HX (show More _ w2 from mC); have HB2 := HB _ HX2; have hz2 := More.size HX2; (try simp at hz2); have hb2 := hb2))
  all_goals
    go_wp2_with fail
    refine bodyPost_ret (v := .agg #[.bool p.1.1, .slice r1a r1n r1c, .slice r1d r1m r1e, .bool q.1.1, .slice r2a r2n r2c, .slice r2d r2m r2e]) ?_ rfl ?_
    · simp [results, Try.results70, go_sem, *]
    · exact ⟨[.bool p.1.1, .slice r1a r1n r1c, .slice r1d r1m r1e, .bool q.1.1, .slice r2a r2n r2c, .slice r2d r2m r2e], rfl, mC2, Ty.fresh_mono (pair_fr (bs := [w.heap.size + 1]) (B := ((w.alloc (.cells #[.bool p.1.1, .slice pa pn pc, .slice pd pm pe, .bool q.1.1, .slice qa qn qc, .slice qd qm qe] 55)).alloc (.cells #[.bool false, .slice none 0 0, .slice none 0 0, .bool false, .slice none 0 0, .slice none 0 0] 55)).heap.size) (c1 := [.bool p.1.1, .slice r1a r1n r1c, .slice r1d r1m r1e]) (Ty.fresh_mono F1.out (by have y1 := hz1; (try simp at y1); have s1 := hb1.size; (try simp at s1); have y2 := hz2; (try simp at y2); have s2 := hb2.size; (try simp at s2); (try simp) <;> omega)) (Ty.fresh_mono (S := tRat) (B' := w1.heap.size) F2.out (by have y1 := hz1; (try simp at y1); have s1 := hb1.size; (try simp at s1); have y2 := hz2; (try simp at y2); have s2 := hb2.size; (try simp at s2); (try simp) <;> omega)) tC tC (by (try simp) <;> omega) (by have y1 := hz1; (try simp at y1); have s1 := hb1.size; (try simp at s1); have y2 := hz2; (try simp at y2); have s2 := hb2.size; (try simp at s2); (try simp) <;> omega)) (by (try simp) <;> omega)⟩
set_option maxRecDepth 8000 in
set_option maxHeartbeats 12800000 in
theorem spec_l05Copy (cs0 : List Value) (p q : QR) (w : World) (hv0 : tPoint.at w cs0 (p, q)) (hw0 : wPoint (p, q) ≤ 1048576) :
    Calls Try.prog 67 #[.agg cs0.toArray] w fun e w' => ∃ cs : List Value, e = .returned (.agg cs.toArray) ∧ More w w' ∧ tPoint.fresh w.heap.size w' cs (p, q) := by
  obtain ⟨k0, d0, rfl, f0, e0⟩ := at_prod hv0
  have f1 := e0; clear e0
  have f0 : tRat.at w _ p := f0
  obtain ⟨pa, pn, pc, pd, pm, pe, rfl⟩ := sh_Rat f0
  have Hp := Lib.hid f0; clear f0
  try clear f0
  have Wp : Hid (wRat p ≤ 1048576) := Lib.hid (by have h := hw0; unfold wPoint at h; dsimp only at h; omega)
  have f1 : tRat.at w _ q := f1
  obtain ⟨qa, qn, qc, qd, qm, qe, rfl⟩ := sh_Rat f1
  have Hq := Lib.hid f1; clear f1
  try clear f1
  have Wq : Hid (wRat q ≤ 1048576) := Lib.hid (by have h := hw0; unfold wPoint at h; dsimp only at h; omega)
  try clear e0 e1
  have HV0 : Hid (tPoint.at w [.bool p.1.1, .slice pa pn pc, .slice pd pm pe, .bool q.1.1, .slice qa qn qc, .slice qd qm qe] (p, q)) := Lib.hid hv0; have HW0 := Lib.hid hw0; clear hv0 hw0
  show Calls Try.prog 67 #[.agg #[.bool p.1.1, .slice pa pn pc, .slice pd pm pe, .bool q.1.1, .slice qa qn qc, .slice qd qm qe]] w _
  have HX := More.refl ((w.alloc (.cells #[.bool p.1.1, .slice pa pn pc, .slice pd pm pe, .bool q.1.1, .slice qa qn qc, .slice qd qm qe] 55)).alloc (.cells #[.bool false, .slice none 0 0, .slice none 0 0, .bool false, .slice none 0 0, .slice none 0 0] 55))
  have HC := fun (w' : World) (h : Turns [w.heap.size + 1] ((w.alloc (.cells #[.bool p.1.1, .slice pa pn pc, .slice pd pm pe, .bool q.1.1, .slice qa qn qc, .slice qd qm qe] 55)).alloc (.cells #[.bool false, .slice none 0 0, .slice none 0 0, .bool false, .slice none 0 0, .slice none 0 0] 55)) w') => bt6 (w.heap.size) (by simp) (More.un (More.refl _)) h (by simp <;> omega) (by simp <;> omega)
  have HB := fun (w' : World) (h : More ((w.alloc (.cells #[.bool p.1.1, .slice pa pn pc, .slice pd pm pe, .bool q.1.1, .slice qa qn qc, .slice qd qm qe] 55)).alloc (.cells #[.bool false, .slice none 0 0, .slice none 0 0, .bool false, .slice none 0 0, .slice none 0 0] 55)) w') => And.intro (bx6 (w.heap.size) (by simp) (More.un h)) (bx6 (w.heap.size + 1) (by simp) h)
  go_enter Try.func67, Try.ntmps67
  go_wp2_with fail
  go_region_held3 (fun w' => Turns [w.heap.size + 1] ((w.alloc (.cells #[.bool p.1.1, .slice pa pn pc, .slice pd pm pe, .bool q.1.1, .slice qa qn qc, .slice qd qm qe] 55)).alloc (.cells #[.bool false, .slice none 0 0, .slice none 0 0, .bool false, .slice none 0 0, .slice none 0 0] 55)) w') (first | exact tC | exact mC2) (first | (go_at_call 55; (with_reducible refine (spec_l04CopyR [.bool p.1.1, .slice pa pn pc, .slice pd pm pe] p _ (Ty.at_more Hp.out mC) Wp.out).mono ?_); rintro e w1 ⟨u1, v1, rfl, hb1, f1⟩; obtain ⟨r1a, r1n, r1c, r1d, r1m, r1e, e9⟩ := sh_Rat (Ty.fresh_at f1); simp only [List.cons.injEq, and_true, true_and] at e9; obtain ⟨e8, e9⟩ := e9; subst e8; subst e9; have F1 := Lib.hid f1; clear f1; have HX1 := More.trans HX (show More _ w1 from mC); have HB1 := HB _ HX1; have hz1 := More.size HX1; (try simp at hz1); have hb1 := hb1) | (go_at_call 55; (with_reducible refine (spec_l04CopyR [.bool q.1.1, .slice qa qn qc, .slice qd qm qe] q _ (Ty.at_more Hq.out mC) Wq.out).mono ?_); rintro e w2 ⟨u2, v2, rfl, hb2, f2⟩; obtain ⟨r2a, r2n, r2c, r2d, r2m, r2e, e9⟩ := sh_Rat (Ty.fresh_at f2); simp only [List.cons.injEq, and_true, true_and] at e9; obtain ⟨e8, e9⟩ := e9; subst e8; subst e9; have F2 := Lib.hid f2; clear f2; have HX2 := More.trans HX (show More _ w2 from mC); have HB2 := HB _ HX2; have hz2 := More.size HX2; (try simp at hz2); have hb2 := hb2))
  all_goals
    go_wp2_with fail
    refine bodyPost_ret (v := .agg #[.bool p.1.1, .slice r1a r1n r1c, .slice r1d r1m r1e, .bool q.1.1, .slice r2a r2n r2c, .slice r2d r2m r2e]) ?_ rfl ?_
    · simp [results, Try.results67, go_sem, *]
    · exact ⟨[.bool p.1.1, .slice r1a r1n r1c, .slice r1d r1m r1e, .bool q.1.1, .slice r2a r2n r2c, .slice r2d r2m r2e], rfl, mC2, Ty.fresh_mono (pair_fr (bs := [w.heap.size + 1]) (B := ((w.alloc (.cells #[.bool p.1.1, .slice pa pn pc, .slice pd pm pe, .bool q.1.1, .slice qa qn qc, .slice qd qm qe] 55)).alloc (.cells #[.bool false, .slice none 0 0, .slice none 0 0, .bool false, .slice none 0 0, .slice none 0 0] 55)).heap.size) (c1 := [.bool p.1.1, .slice r1a r1n r1c, .slice r1d r1m r1e]) (Ty.fresh_mono F1.out (by have y1 := hz1; (try simp at y1); have s1 := hb1.size; (try simp at s1); have y2 := hz2; (try simp at y2); have s2 := hb2.size; (try simp at s2); (try simp) <;> omega)) (Ty.fresh_mono (S := tRat) (B' := w1.heap.size) F2.out (by have y1 := hz1; (try simp at y1); have s1 := hb1.size; (try simp at s1); have y2 := hz2; (try simp at y2); have s2 := hb2.size; (try simp at s2); (try simp) <;> omega)) tC tC (by (try simp) <;> omega) (by have y1 := hz1; (try simp at y1); have s1 := hb1.size; (try simp at s1); have y2 := hz2; (try simp at y2); have s2 := hb2.size; (try simp at s2); (try simp) <;> omega)) (by (try simp) <;> omega)⟩
end Go.Proofs.Yteihkhniibncnaa
