/- Walls and cells: valid ones. -/
import Derived.Test.YteihkhniibncnaaGreatGInt
namespace Go.Proofs.YteihkhniibncnaaGreat
open Go.RowKit
noncomputable def wallB (x : QWall) : Bool := [x.1, x.2.1, x.2.2].all ratOkB && decide (rCmp x.2.1 x.2.2 < 0)
set_option maxRecDepth 4000 in
set_option maxHeartbeats 6400000 in
theorem impl_IsValidWall (cs : List Value) (p q r : QR) (w : World) (hv : tWall.at w cs (p, q, r)) (hw : wWall (p, q, r) ≤ 1048576) :
    Calls Tryz.prog 74 #[.agg cs.toArray] w fun e w' => e = .returned (.bool (wallB (p, q, r))) ∧ More w w' := by
  obtain ⟨k0, d0, rfl, f0, e0⟩ := at_prod hv
  obtain ⟨k1, d1, rfl, f1, e1⟩ := at_prod e0
  have f2 := e1; clear e1
  have f0 : tRat.at w _ p := f0
  obtain ⟨pa, pn, pc, pd, pm, pe, rfl⟩ := sh_Rat f0
  have Hp := Lib.hid f0; clear f0
  try clear f0
  have Wp : Hid (wRat p ≤ 1048576) := Lib.hid (by unfold wWall at hw; dsimp only at hw; omega)
  have f1 : tRat.at w _ q := f1
  obtain ⟨qa, qn, qc, qd, qm, qe, rfl⟩ := sh_Rat f1
  have Hq := Lib.hid f1; clear f1
  try clear f1
  have Wq : Hid (wRat q ≤ 1048576) := Lib.hid (by unfold wWall at hw; dsimp only at hw; omega)
  have f2 : tRat.at w _ r := f2
  obtain ⟨ra, rn, rc, rd, rm, re, rfl⟩ := sh_Rat f2
  have Hr := Lib.hid f2; clear f2
  try clear f2
  have Wr : Hid (wRat r ≤ 1048576) := Lib.hid (by unfold wWall at hw; dsimp only at hw; omega)
  clear hw
  try clear f0 f1 f2 f3 f4 f5
  try clear f0 f1 f2
  try clear e0 e1 e2 e3 e4
  try clear e0 e1
  try clear e0
  try clear hv
  show Calls Tryz.prog 74 #[.agg #[.bool p.1.1, .slice pa pn pc, .slice pd pm pe, .bool q.1.1, .slice qa qn qc, .slice qd qm qe, .bool r.1.1, .slice ra rn rc, .slice rd rm re]] w _
  rcases Bool.eq_false_or_eq_true ([p, q, r].all ratOkB) with ka | ka
  rotate_left
  · have KA := Lib.hid ka; clear ka
    have HX : More (w.alloc (.cells #[.bool p.1.1, .slice pa pn pc, .slice pd pm pe, .bool q.1.1, .slice qa qn qc, .slice qd qm qe, .bool r.1.1, .slice ra rn rc, .slice rd rm re] 50)) (w.alloc (.cells #[.bool p.1.1, .slice pa pn pc, .slice pd pm pe, .bool q.1.1, .slice qa qn qc, .slice qd qm qe, .bool r.1.1, .slice ra rn rc, .slice rd rm re] 50)) := More.refl _
    have HB : ∀ w', More (w.alloc (.cells #[.bool p.1.1, .slice pa pn pc, .slice pd pm pe, .bool q.1.1, .slice qa qn qc, .slice qd qm qe, .bool r.1.1, .slice ra rn rc, .slice rd rm re] 50)) w' → w'.cell? ⟨w.heap.size, 0, none⟩ = some (.bool p.1.1) ∧ w'.cell? ⟨w.heap.size, 1, none⟩ = some (.slice pa pn pc) ∧ w'.cell? ⟨w.heap.size, 2, none⟩ = some (.slice pd pm pe) ∧ w'.cell? ⟨w.heap.size, 3, none⟩ = some (.bool q.1.1) ∧ w'.cell? ⟨w.heap.size, 4, none⟩ = some (.slice qa qn qc) ∧ w'.cell? ⟨w.heap.size, 5, none⟩ = some (.slice qd qm qe) ∧ w'.cell? ⟨w.heap.size, 6, none⟩ = some (.bool r.1.1) ∧ w'.cell? ⟨w.heap.size, 7, none⟩ = some (.slice ra rn rc) ∧ w'.cell? ⟨w.heap.size, 8, none⟩ = some (.slice rd rm re) ∧ (∀ j, w'.frozen? ⟨w.heap.size, j, none⟩ = false) := fun w' h => ⟨box_new (by simp) h 0, box_new (by simp) h 1, box_new (by simp) h 2, box_new (by simp) h 3, box_new (by simp) h 4, box_new (by simp) h 5, box_new (by simp) h 6, box_new (by simp) h 7, box_new (by simp) h 8, fun j => box_free (by simp) h j⟩
    go_enter Tryz.func74, Tryz.ntmps74
    go_wp2_with (first | (go_at_call 139; refine (impl_allRats _ [p, q, r] _ (lit_at (S := tRat) (n := 3) [([.bool p.1.1, .slice pa pn pc, .slice pd pm pe], p), ([.bool q.1.1, .slice qa qn qc, .slice qd qm qe], q), ([.bool r.1.1, .slice ra rn rc, .slice rd rm re], r)] (by simp) rfl rfl (by decide) (by rintro p hp; simp only [List.mem_cons, List.not_mem_nil, or_false] at hp; rcases hp with rfl | rfl | rfl <;> first | exact ⟨rfl, (Ty.at_more Hp.out mC)⟩ | exact ⟨rfl, (Ty.at_more Hq.out mC)⟩ | exact ⟨rfl, (Ty.at_more Hr.out mC)⟩) : tRatS.at _ [_] [p, q, r]) (by refine ⟨by simp, ?_⟩; intro x hx; simp only [List.mem_cons, List.not_mem_nil, or_false] at hx; rcases hx with rfl | rfl | rfl <;> first | exact Wp.out | exact Wq.out | exact Wr.out)).mono ?_; rintro e w1 ⟨rfl, hb1⟩; have HX1 : More (w.alloc (.cells #[.bool p.1.1, .slice pa pn pc, .slice pd pm pe, .bool q.1.1, .slice qa qn qc, .slice qd qm qe, .bool r.1.1, .slice ra rn rc, .slice rd rm re] 50)) w1 := mC; have HB1 := HB _ HX1; have hz1 := More.size HX1; (try simp at hz1); have hb1 := hb1; rw [KA.out]))
    go_ret
    exact ⟨ret_bool (by unfold wallB; rw [KA.out]; rfl), mC⟩
  have KA := Lib.hid ka
  simp only [List.all_cons, List.all_nil, Bool.and_true, Bool.and_eq_true] at ka
  obtain ⟨kp, kq, kr⟩ := ka
  have Kp := Lib.hid kp; have Kq := Lib.hid kq; have Kr := Lib.hid kr; clear kp kq kr
  obtain ⟨c, ch⟩ : ∃ c, rCmp q r = c := ⟨_, rfl⟩
  obtain ⟨cl, cu⟩ : -1 ≤ c ∧ c ≤ 1 := by rw [← ch]; exact rCmp_range _ _
  have C := Lib.hid ch; clear ch
  have E : Hid (wallB (p, q, r) = decide (c < 0)) := Lib.hid (by unfold wallB; rw [KA.out, C.out]; rfl)
  rw [E.out]
  rcases (show c < 0 ∨ 0 ≤ c by omega) with hc | hc
  all_goals
    have HX : More (w.alloc (.cells #[.bool p.1.1, .slice pa pn pc, .slice pd pm pe, .bool q.1.1, .slice qa qn qc, .slice qd qm qe, .bool r.1.1, .slice ra rn rc, .slice rd rm re] 50)) (w.alloc (.cells #[.bool p.1.1, .slice pa pn pc, .slice pd pm pe, .bool q.1.1, .slice qa qn qc, .slice qd qm qe, .bool r.1.1, .slice ra rn rc, .slice rd rm re] 50)) := More.refl _
    have HB : ∀ w', More (w.alloc (.cells #[.bool p.1.1, .slice pa pn pc, .slice pd pm pe, .bool q.1.1, .slice qa qn qc, .slice qd qm qe, .bool r.1.1, .slice ra rn rc, .slice rd rm re] 50)) w' → w'.cell? ⟨w.heap.size, 0, none⟩ = some (.bool p.1.1) ∧ w'.cell? ⟨w.heap.size, 1, none⟩ = some (.slice pa pn pc) ∧ w'.cell? ⟨w.heap.size, 2, none⟩ = some (.slice pd pm pe) ∧ w'.cell? ⟨w.heap.size, 3, none⟩ = some (.bool q.1.1) ∧ w'.cell? ⟨w.heap.size, 4, none⟩ = some (.slice qa qn qc) ∧ w'.cell? ⟨w.heap.size, 5, none⟩ = some (.slice qd qm qe) ∧ w'.cell? ⟨w.heap.size, 6, none⟩ = some (.bool r.1.1) ∧ w'.cell? ⟨w.heap.size, 7, none⟩ = some (.slice ra rn rc) ∧ w'.cell? ⟨w.heap.size, 8, none⟩ = some (.slice rd rm re) ∧ (∀ j, w'.frozen? ⟨w.heap.size, j, none⟩ = false) := fun w' h => ⟨box_new (by simp) h 0, box_new (by simp) h 1, box_new (by simp) h 2, box_new (by simp) h 3, box_new (by simp) h 4, box_new (by simp) h 5, box_new (by simp) h 6, box_new (by simp) h 7, box_new (by simp) h 8, fun j => box_free (by simp) h j⟩
    go_enter Tryz.func74, Tryz.ntmps74
    go_wp2_with (first | (go_at_call 139; refine (impl_allRats _ [p, q, r] _ (lit_at (S := tRat) (n := 3) [([.bool p.1.1, .slice pa pn pc, .slice pd pm pe], p), ([.bool q.1.1, .slice qa qn qc, .slice qd qm qe], q), ([.bool r.1.1, .slice ra rn rc, .slice rd rm re], r)] (by simp) rfl rfl (by decide) (by rintro p hp; simp only [List.mem_cons, List.not_mem_nil, or_false] at hp; rcases hp with rfl | rfl | rfl <;> first | exact ⟨rfl, (Ty.at_more Hp.out mC)⟩ | exact ⟨rfl, (Ty.at_more Hq.out mC)⟩ | exact ⟨rfl, (Ty.at_more Hr.out mC)⟩) : tRatS.at _ [_] [p, q, r]) (by refine ⟨by simp, ?_⟩; intro x hx; simp only [List.mem_cons, List.not_mem_nil, or_false] at hx; rcases hx with rfl | rfl | rfl <;> first | exact Wp.out | exact Wq.out | exact Wr.out)).mono ?_; rintro e w1 ⟨rfl, hb1⟩; have HX1 : More (w.alloc (.cells #[.bool p.1.1, .slice pa pn pc, .slice pd pm pe, .bool q.1.1, .slice qa qn qc, .slice qd qm qe, .bool r.1.1, .slice ra rn rc, .slice rd rm re] 50)) w1 := mC; have HB1 := HB _ HX1; have hz1 := More.size HX1; (try simp at hz1); have hb1 := hb1; rw [KA.out]) | (go_at_call 134; (with_reducible refine (impl_ratCmpX q q.1.1 (.slice qa qn qc) (.slice qd qm qe) r r.1.1 (.slice ra rn rc) (.slice rd rm re) _ Kq.out Kr.out (Ty.at_more Hq.out mC) (Ty.at_more Hr.out mC)).mono ?_); rintro e w2 ⟨rfl, hb2⟩; have HX2 : More (w.alloc (.cells #[.bool p.1.1, .slice pa pn pc, .slice pd pm pe, .bool q.1.1, .slice qa qn qc, .slice qd qm qe, .bool r.1.1, .slice ra rn rc, .slice rd rm re] 50)) w2 := mC; have HB2 := HB _ HX2; have hz2 := More.size HX2; (try simp at hz2); have hb2 := hb2; rw [C.out]))
    go_ret
    exact ⟨ret_bool (by first | rfl | (simp <;> omega) | (rw [Bool.eq_iff_iff]; simp only [Bool.and_eq_true, decide_eq_true_eq]; omega)), mC⟩
set_option maxRecDepth 4000 in
set_option maxHeartbeats 6400000 in
theorem spec_IsValidWall (cs : List Value) (p q r : QR) (w : World) (hv : tWall.at w cs (p, q, r)) (hw : wWall (p, q, r) ≤ 1048576) :
    Calls Tryz.prog 68 #[.agg cs.toArray] w fun e w' => e = .returned (.bool (wallB (p, q, r))) ∧ More w w' := by
  obtain ⟨k0, d0, rfl, f0, e0⟩ := at_prod hv
  obtain ⟨k1, d1, rfl, f1, e1⟩ := at_prod e0
  have f2 := e1; clear e1
  have f0 : tRat.at w _ p := f0
  obtain ⟨pa, pn, pc, pd, pm, pe, rfl⟩ := sh_Rat f0
  have Hp := Lib.hid f0; clear f0
  try clear f0
  have Wp : Hid (wRat p ≤ 1048576) := Lib.hid (by unfold wWall at hw; dsimp only at hw; omega)
  have f1 : tRat.at w _ q := f1
  obtain ⟨qa, qn, qc, qd, qm, qe, rfl⟩ := sh_Rat f1
  have Hq := Lib.hid f1; clear f1
  try clear f1
  have Wq : Hid (wRat q ≤ 1048576) := Lib.hid (by unfold wWall at hw; dsimp only at hw; omega)
  have f2 : tRat.at w _ r := f2
  obtain ⟨ra, rn, rc, rd, rm, re, rfl⟩ := sh_Rat f2
  have Hr := Lib.hid f2; clear f2
  try clear f2
  have Wr : Hid (wRat r ≤ 1048576) := Lib.hid (by unfold wWall at hw; dsimp only at hw; omega)
  clear hw
  try clear f0 f1 f2 f3 f4 f5
  try clear f0 f1 f2
  try clear e0 e1 e2 e3 e4
  try clear e0 e1
  try clear e0
  try clear hv
  show Calls Tryz.prog 68 #[.agg #[.bool p.1.1, .slice pa pn pc, .slice pd pm pe, .bool q.1.1, .slice qa qn qc, .slice qd qm qe, .bool r.1.1, .slice ra rn rc, .slice rd rm re]] w _
  rcases Bool.eq_false_or_eq_true (ratOkB p) with kp | kp
  rotate_left
  · have Kp := Lib.hid kp; clear kp
    have HX : More (w.alloc (.cells #[.bool p.1.1, .slice pa pn pc, .slice pd pm pe, .bool q.1.1, .slice qa qn qc, .slice qd qm qe, .bool r.1.1, .slice ra rn rc, .slice rd rm re] 50)) (w.alloc (.cells #[.bool p.1.1, .slice pa pn pc, .slice pd pm pe, .bool q.1.1, .slice qa qn qc, .slice qd qm qe, .bool r.1.1, .slice ra rn rc, .slice rd rm re] 50)) := More.refl _
    have HB : ∀ w', More (w.alloc (.cells #[.bool p.1.1, .slice pa pn pc, .slice pd pm pe, .bool q.1.1, .slice qa qn qc, .slice qd qm qe, .bool r.1.1, .slice ra rn rc, .slice rd rm re] 50)) w' → w'.cell? ⟨w.heap.size, 0, none⟩ = some (.bool p.1.1) ∧ w'.cell? ⟨w.heap.size, 1, none⟩ = some (.slice pa pn pc) ∧ w'.cell? ⟨w.heap.size, 2, none⟩ = some (.slice pd pm pe) ∧ w'.cell? ⟨w.heap.size, 3, none⟩ = some (.bool q.1.1) ∧ w'.cell? ⟨w.heap.size, 4, none⟩ = some (.slice qa qn qc) ∧ w'.cell? ⟨w.heap.size, 5, none⟩ = some (.slice qd qm qe) ∧ w'.cell? ⟨w.heap.size, 6, none⟩ = some (.bool r.1.1) ∧ w'.cell? ⟨w.heap.size, 7, none⟩ = some (.slice ra rn rc) ∧ w'.cell? ⟨w.heap.size, 8, none⟩ = some (.slice rd rm re) ∧ (∀ j, w'.frozen? ⟨w.heap.size, j, none⟩ = false) := fun w' h => ⟨box_new (by simp) h 0, box_new (by simp) h 1, box_new (by simp) h 2, box_new (by simp) h 3, box_new (by simp) h 4, box_new (by simp) h 5, box_new (by simp) h 6, box_new (by simp) h 7, box_new (by simp) h 8, fun j => box_free (by simp) h j⟩
    go_enter Tryz.func68, Tryz.ntmps68
    go_wp2_with (first | (go_at_call 119; (with_reducible refine (spec_RatOk p.1.1 (.slice pa pn pc) (.slice pd pm pe) p _ (Ty.at_more Hp.out mC) Wp.out).mono ?_); rintro e w1 ⟨rfl, hb1⟩; have HX1 : More (w.alloc (.cells #[.bool p.1.1, .slice pa pn pc, .slice pd pm pe, .bool q.1.1, .slice qa qn qc, .slice qd qm qe, .bool r.1.1, .slice ra rn rc, .slice rd rm re] 50)) w1 := mC; have HB1 := HB _ HX1; have hz1 := More.size HX1; (try simp at hz1); have hb1 := hb1; rw [Kp.out]))
    go_ret
    exact ⟨ret_bool (by unfold wallB; simp [Kp.out]), mC⟩
  have Kp := Lib.hid kp; clear kp
  rcases Bool.eq_false_or_eq_true (ratOkB q) with kq | kq
  rotate_left
  · have Kq := Lib.hid kq; clear kq
    have HX : More (w.alloc (.cells #[.bool p.1.1, .slice pa pn pc, .slice pd pm pe, .bool q.1.1, .slice qa qn qc, .slice qd qm qe, .bool r.1.1, .slice ra rn rc, .slice rd rm re] 50)) (w.alloc (.cells #[.bool p.1.1, .slice pa pn pc, .slice pd pm pe, .bool q.1.1, .slice qa qn qc, .slice qd qm qe, .bool r.1.1, .slice ra rn rc, .slice rd rm re] 50)) := More.refl _
    have HB : ∀ w', More (w.alloc (.cells #[.bool p.1.1, .slice pa pn pc, .slice pd pm pe, .bool q.1.1, .slice qa qn qc, .slice qd qm qe, .bool r.1.1, .slice ra rn rc, .slice rd rm re] 50)) w' → w'.cell? ⟨w.heap.size, 0, none⟩ = some (.bool p.1.1) ∧ w'.cell? ⟨w.heap.size, 1, none⟩ = some (.slice pa pn pc) ∧ w'.cell? ⟨w.heap.size, 2, none⟩ = some (.slice pd pm pe) ∧ w'.cell? ⟨w.heap.size, 3, none⟩ = some (.bool q.1.1) ∧ w'.cell? ⟨w.heap.size, 4, none⟩ = some (.slice qa qn qc) ∧ w'.cell? ⟨w.heap.size, 5, none⟩ = some (.slice qd qm qe) ∧ w'.cell? ⟨w.heap.size, 6, none⟩ = some (.bool r.1.1) ∧ w'.cell? ⟨w.heap.size, 7, none⟩ = some (.slice ra rn rc) ∧ w'.cell? ⟨w.heap.size, 8, none⟩ = some (.slice rd rm re) ∧ (∀ j, w'.frozen? ⟨w.heap.size, j, none⟩ = false) := fun w' h => ⟨box_new (by simp) h 0, box_new (by simp) h 1, box_new (by simp) h 2, box_new (by simp) h 3, box_new (by simp) h 4, box_new (by simp) h 5, box_new (by simp) h 6, box_new (by simp) h 7, box_new (by simp) h 8, fun j => box_free (by simp) h j⟩
    go_enter Tryz.func68, Tryz.ntmps68
    go_wp2_with (first | (go_at_call 119; (with_reducible refine (spec_RatOk p.1.1 (.slice pa pn pc) (.slice pd pm pe) p _ (Ty.at_more Hp.out mC) Wp.out).mono ?_); rintro e w1 ⟨rfl, hb1⟩; have HX1 : More (w.alloc (.cells #[.bool p.1.1, .slice pa pn pc, .slice pd pm pe, .bool q.1.1, .slice qa qn qc, .slice qd qm qe, .bool r.1.1, .slice ra rn rc, .slice rd rm re] 50)) w1 := mC; have HB1 := HB _ HX1; have hz1 := More.size HX1; (try simp at hz1); have hb1 := hb1; rw [Kp.out]) | (go_at_call 119; (with_reducible refine (spec_RatOk q.1.1 (.slice qa qn qc) (.slice qd qm qe) q _ (Ty.at_more Hq.out mC) Wq.out).mono ?_); rintro e w2 ⟨rfl, hb2⟩; have HX2 : More (w.alloc (.cells #[.bool p.1.1, .slice pa pn pc, .slice pd pm pe, .bool q.1.1, .slice qa qn qc, .slice qd qm qe, .bool r.1.1, .slice ra rn rc, .slice rd rm re] 50)) w2 := mC; have HB2 := HB _ HX2; have hz2 := More.size HX2; (try simp at hz2); have hb2 := hb2; rw [Kq.out]))
    go_ret
    exact ⟨ret_bool (by unfold wallB; simp [Kp.out, Kq.out]), mC⟩
  have Kq := Lib.hid kq; clear kq
  rcases Bool.eq_false_or_eq_true (ratOkB r) with kr | kr
  rotate_left
  · have Kr := Lib.hid kr; clear kr
    have HX : More (w.alloc (.cells #[.bool p.1.1, .slice pa pn pc, .slice pd pm pe, .bool q.1.1, .slice qa qn qc, .slice qd qm qe, .bool r.1.1, .slice ra rn rc, .slice rd rm re] 50)) (w.alloc (.cells #[.bool p.1.1, .slice pa pn pc, .slice pd pm pe, .bool q.1.1, .slice qa qn qc, .slice qd qm qe, .bool r.1.1, .slice ra rn rc, .slice rd rm re] 50)) := More.refl _
    have HB : ∀ w', More (w.alloc (.cells #[.bool p.1.1, .slice pa pn pc, .slice pd pm pe, .bool q.1.1, .slice qa qn qc, .slice qd qm qe, .bool r.1.1, .slice ra rn rc, .slice rd rm re] 50)) w' → w'.cell? ⟨w.heap.size, 0, none⟩ = some (.bool p.1.1) ∧ w'.cell? ⟨w.heap.size, 1, none⟩ = some (.slice pa pn pc) ∧ w'.cell? ⟨w.heap.size, 2, none⟩ = some (.slice pd pm pe) ∧ w'.cell? ⟨w.heap.size, 3, none⟩ = some (.bool q.1.1) ∧ w'.cell? ⟨w.heap.size, 4, none⟩ = some (.slice qa qn qc) ∧ w'.cell? ⟨w.heap.size, 5, none⟩ = some (.slice qd qm qe) ∧ w'.cell? ⟨w.heap.size, 6, none⟩ = some (.bool r.1.1) ∧ w'.cell? ⟨w.heap.size, 7, none⟩ = some (.slice ra rn rc) ∧ w'.cell? ⟨w.heap.size, 8, none⟩ = some (.slice rd rm re) ∧ (∀ j, w'.frozen? ⟨w.heap.size, j, none⟩ = false) := fun w' h => ⟨box_new (by simp) h 0, box_new (by simp) h 1, box_new (by simp) h 2, box_new (by simp) h 3, box_new (by simp) h 4, box_new (by simp) h 5, box_new (by simp) h 6, box_new (by simp) h 7, box_new (by simp) h 8, fun j => box_free (by simp) h j⟩
    go_enter Tryz.func68, Tryz.ntmps68
    go_wp2_with (first | (go_at_call 119; (with_reducible refine (spec_RatOk p.1.1 (.slice pa pn pc) (.slice pd pm pe) p _ (Ty.at_more Hp.out mC) Wp.out).mono ?_); rintro e w1 ⟨rfl, hb1⟩; have HX1 : More (w.alloc (.cells #[.bool p.1.1, .slice pa pn pc, .slice pd pm pe, .bool q.1.1, .slice qa qn qc, .slice qd qm qe, .bool r.1.1, .slice ra rn rc, .slice rd rm re] 50)) w1 := mC; have HB1 := HB _ HX1; have hz1 := More.size HX1; (try simp at hz1); have hb1 := hb1; rw [Kp.out]) | (go_at_call 119; (with_reducible refine (spec_RatOk q.1.1 (.slice qa qn qc) (.slice qd qm qe) q _ (Ty.at_more Hq.out mC) Wq.out).mono ?_); rintro e w2 ⟨rfl, hb2⟩; have HX2 : More (w.alloc (.cells #[.bool p.1.1, .slice pa pn pc, .slice pd pm pe, .bool q.1.1, .slice qa qn qc, .slice qd qm qe, .bool r.1.1, .slice ra rn rc, .slice rd rm re] 50)) w2 := mC; have HB2 := HB _ HX2; have hz2 := More.size HX2; (try simp at hz2); have hb2 := hb2; rw [Kq.out]) | (go_at_call 119; (with_reducible refine (spec_RatOk r.1.1 (.slice ra rn rc) (.slice rd rm re) r _ (Ty.at_more Hr.out mC) Wr.out).mono ?_); rintro e w3 ⟨rfl, hb3⟩; have HX3 : More (w.alloc (.cells #[.bool p.1.1, .slice pa pn pc, .slice pd pm pe, .bool q.1.1, .slice qa qn qc, .slice qd qm qe, .bool r.1.1, .slice ra rn rc, .slice rd rm re] 50)) w3 := mC; have HB3 := HB _ HX3; have hz3 := More.size HX3; (try simp at hz3); have hb3 := hb3; rw [Kr.out]))
    go_ret
    exact ⟨ret_bool (by unfold wallB; simp [Kp.out, Kq.out, Kr.out]), mC⟩
  have Kr := Lib.hid kr; clear kr
  obtain ⟨c, ch⟩ : ∃ c, rCmp q r = c := ⟨_, rfl⟩
  obtain ⟨cl, cu⟩ : -1 ≤ c ∧ c ≤ 1 := by rw [← ch]; exact rCmp_range _ _
  have C := Lib.hid ch; clear ch
  have E : Hid (wallB (p, q, r) = decide (c < 0)) := Lib.hid (by unfold wallB; rw [C.out]; simp [Kp.out, Kq.out, Kr.out])
  rw [E.out]
  rcases (show c < 0 ∨ 0 ≤ c by omega) with hc | hc
  all_goals
    have HX : More (w.alloc (.cells #[.bool p.1.1, .slice pa pn pc, .slice pd pm pe, .bool q.1.1, .slice qa qn qc, .slice qd qm qe, .bool r.1.1, .slice ra rn rc, .slice rd rm re] 50)) (w.alloc (.cells #[.bool p.1.1, .slice pa pn pc, .slice pd pm pe, .bool q.1.1, .slice qa qn qc, .slice qd qm qe, .bool r.1.1, .slice ra rn rc, .slice rd rm re] 50)) := More.refl _
    have HB : ∀ w', More (w.alloc (.cells #[.bool p.1.1, .slice pa pn pc, .slice pd pm pe, .bool q.1.1, .slice qa qn qc, .slice qd qm qe, .bool r.1.1, .slice ra rn rc, .slice rd rm re] 50)) w' → w'.cell? ⟨w.heap.size, 0, none⟩ = some (.bool p.1.1) ∧ w'.cell? ⟨w.heap.size, 1, none⟩ = some (.slice pa pn pc) ∧ w'.cell? ⟨w.heap.size, 2, none⟩ = some (.slice pd pm pe) ∧ w'.cell? ⟨w.heap.size, 3, none⟩ = some (.bool q.1.1) ∧ w'.cell? ⟨w.heap.size, 4, none⟩ = some (.slice qa qn qc) ∧ w'.cell? ⟨w.heap.size, 5, none⟩ = some (.slice qd qm qe) ∧ w'.cell? ⟨w.heap.size, 6, none⟩ = some (.bool r.1.1) ∧ w'.cell? ⟨w.heap.size, 7, none⟩ = some (.slice ra rn rc) ∧ w'.cell? ⟨w.heap.size, 8, none⟩ = some (.slice rd rm re) ∧ (∀ j, w'.frozen? ⟨w.heap.size, j, none⟩ = false) := fun w' h => ⟨box_new (by simp) h 0, box_new (by simp) h 1, box_new (by simp) h 2, box_new (by simp) h 3, box_new (by simp) h 4, box_new (by simp) h 5, box_new (by simp) h 6, box_new (by simp) h 7, box_new (by simp) h 8, fun j => box_free (by simp) h j⟩
    go_enter Tryz.func68, Tryz.ntmps68
    go_wp2_with (first | (go_at_call 119; (with_reducible refine (spec_RatOk p.1.1 (.slice pa pn pc) (.slice pd pm pe) p _ (Ty.at_more Hp.out mC) Wp.out).mono ?_); rintro e w1 ⟨rfl, hb1⟩; have HX1 : More (w.alloc (.cells #[.bool p.1.1, .slice pa pn pc, .slice pd pm pe, .bool q.1.1, .slice qa qn qc, .slice qd qm qe, .bool r.1.1, .slice ra rn rc, .slice rd rm re] 50)) w1 := mC; have HB1 := HB _ HX1; have hz1 := More.size HX1; (try simp at hz1); have hb1 := hb1; rw [Kp.out]) | (go_at_call 119; (with_reducible refine (spec_RatOk q.1.1 (.slice qa qn qc) (.slice qd qm qe) q _ (Ty.at_more Hq.out mC) Wq.out).mono ?_); rintro e w2 ⟨rfl, hb2⟩; have HX2 : More (w.alloc (.cells #[.bool p.1.1, .slice pa pn pc, .slice pd pm pe, .bool q.1.1, .slice qa qn qc, .slice qd qm qe, .bool r.1.1, .slice ra rn rc, .slice rd rm re] 50)) w2 := mC; have HB2 := HB _ HX2; have hz2 := More.size HX2; (try simp at hz2); have hb2 := hb2; rw [Kq.out]) | (go_at_call 119; (with_reducible refine (spec_RatOk r.1.1 (.slice ra rn rc) (.slice rd rm re) r _ (Ty.at_more Hr.out mC) Wr.out).mono ?_); rintro e w3 ⟨rfl, hb3⟩; have HX3 : More (w.alloc (.cells #[.bool p.1.1, .slice pa pn pc, .slice pd pm pe, .bool q.1.1, .slice qa qn qc, .slice qd qm qe, .bool r.1.1, .slice ra rn rc, .slice rd rm re] 50)) w3 := mC; have HB3 := HB _ HX3; have hz3 := More.size HX3; (try simp at hz3); have hb3 := hb3; rw [Kr.out]) | (go_at_call 46; (with_reducible refine (spec_RatCmpX q q.1.1 (.slice qa qn qc) (.slice qd qm qe) r r.1.1 (.slice ra rn rc) (.slice rd rm re) _ (Ty.at_more Hq.out mC) Wq.out (Ty.at_more Hr.out mC) Wr.out).mono ?_); rintro e w4 ⟨rfl, hb4⟩; have HX4 : More (w.alloc (.cells #[.bool p.1.1, .slice pa pn pc, .slice pd pm pe, .bool q.1.1, .slice qa qn qc, .slice qd qm qe, .bool r.1.1, .slice ra rn rc, .slice rd rm re] 50)) w4 := mC; have HB4 := HB _ HX4; have hz4 := More.size HX4; (try simp at hz4); have hb4 := hb4; rw [C.out]))
    go_ret
    exact ⟨ret_bool (by first | rfl | (simp <;> omega) | (rw [Bool.eq_iff_iff]; simp only [Bool.and_eq_true, decide_eq_true_eq]; omega)), mC⟩
end Go.Proofs.YteihkhniibncnaaGreat
