/- SpansX. -/
import Derived.Test.YtiapendgjapgmaaEdv
import Derived.Test.YtiapendgjapgmaaGInt
import Derived.Test.YtiapendgjapgmaaMan
namespace Go.Proofs.Ytiapendgjapgmaa
open Go.RowKit
noncomputable def spansB (ax bx : Int) (p q : QR) : Bool := decide (rCmp (encR (frInt ax)) p ≤ 0) && decide (0 ≤ rCmp (encR (frInt bx)) q)
noncomputable def spanB (e : QE) (p q : QR) : Bool := edgeOk e && (ratOkB p && (ratOkB q && spansB e.1.1 e.2.1.1 p q))
set_option maxRecDepth 4000 in
set_option maxHeartbeats 6400000 in
theorem impl_spans (ax ay bx bY ar : Int) (lw : Bool) (cs1 : List Value) (p : QR) (cs2 : List Value) (q : QR) (w : World) (ia : In64 ax ∧ In64 ay) (ib : In64 bx ∧ In64 bY) (hv1 : tRat.at w cs1 p) (hw1 : wRat p ≤ 1048576) (hv2 : tRat.at w cs2 q) (hw2 : wRat q ≤ 1048576) (kp : ratOkB p = true) (kq : ratOkB q = true) :
    Calls Try.prog 28 #[.agg #[.int .i64 ax, .int .i64 ay, .int .i64 bx, .int .i64 bY, .int .i64 ar, .bool lw], .agg cs1.toArray, .agg cs2.toArray] w fun e w' => e = .returned (.bool (spansB ax bx p q)) ∧ More w w' := by
  have HIA := Lib.hid ia; have HIB := Lib.hid ib; have HIax := Lib.hid ia.1; have HIbx := Lib.hid ib.1; clear ia ib
  obtain ⟨pa, pn, pc, pd, pm, pe, rfl⟩ := sh_Rat hv1
  have Hp := Lib.hid hv1; have Wp := Lib.hid hw1
  have HV1 : Hid (tRat.at w [.bool p.1.1, .slice pa pn pc, .slice pd pm pe] p) := Lib.hid hv1; have HW1 := Lib.hid hw1; clear hv1 hw1
  obtain ⟨qa, qn, qc, qd, qm, qe, rfl⟩ := sh_Rat hv2
  have Hq := Lib.hid hv2; have Wq := Lib.hid hw2
  have HV2 : Hid (tRat.at w [.bool q.1.1, .slice qa qn qc, .slice qd qm qe] q) := Lib.hid hv2; have HW2 := Lib.hid hw2; clear hv2 hw2
  have Kp := Lib.hid kp; have Kq := Lib.hid kq; clear kp kq
  have KIax : Hid (ratOkB (encR (frInt ax)) = true) := Lib.hid (ratOk_int HIax.out); have WIax : Hid (wRat (encR (frInt ax)) ≤ 1048576) := Lib.hid (wRat_int HIax.out)
  obtain ⟨sa, zsa⟩ : ∃ b, decide (ax < 0) = b := ⟨_, rfl⟩
  have SIax := Lib.hid zsa; clear zsa
  have KIbx : Hid (ratOkB (encR (frInt bx)) = true) := Lib.hid (ratOk_int HIbx.out); have WIbx : Hid (wRat (encR (frInt bx)) ≤ 1048576) := Lib.hid (wRat_int HIbx.out)
  obtain ⟨sb, zsb⟩ : ∃ b, decide (bx < 0) = b := ⟨_, rfl⟩
  have SIbx := Lib.hid zsb; clear zsb
  show Calls Try.prog 28 #[.agg #[.int .i64 ax, .int .i64 ay, .int .i64 bx, .int .i64 bY, .int .i64 ar, .bool lw], .agg #[.bool p.1.1, .slice pa pn pc, .slice pd pm pe], .agg #[.bool q.1.1, .slice qa qn qc, .slice qd qm qe]] w _
  obtain ⟨c0, c0h⟩ : ∃ c, rCmp (encR (frInt ax)) p = c := ⟨_, rfl⟩
  obtain ⟨c0l, c0u⟩ : -1 ≤ c0 ∧ c0 ≤ 1 := by rw [← c0h]; exact rCmp_range _ _
  have C := Lib.hid c0h; clear c0h
  rcases (show c0 ≤ 0 ∨ 0 < c0 by omega) with hC | hC
  rotate_left
  · have hCd : decide (c0 ≤ 0) = false := decide_eq_false (by omega)
    have HX : More (((w.alloc (.cells #[.int .i64 ax, .int .i64 ay, .int .i64 bx, .int .i64 bY, .int .i64 ar, .bool lw] 26)).alloc (.cells #[.bool p.1.1, .slice pa pn pc, .slice pd pm pe] 32)).alloc (.cells #[.bool q.1.1, .slice qa qn qc, .slice qd qm qe] 32)) (((w.alloc (.cells #[.int .i64 ax, .int .i64 ay, .int .i64 bx, .int .i64 bY, .int .i64 ar, .bool lw] 26)).alloc (.cells #[.bool p.1.1, .slice pa pn pc, .slice pd pm pe] 32)).alloc (.cells #[.bool q.1.1, .slice qa qn qc, .slice qd qm qe] 32)) := More.refl _
    have HB : ∀ w', More (((w.alloc (.cells #[.int .i64 ax, .int .i64 ay, .int .i64 bx, .int .i64 bY, .int .i64 ar, .bool lw] 26)).alloc (.cells #[.bool p.1.1, .slice pa pn pc, .slice pd pm pe] 32)).alloc (.cells #[.bool q.1.1, .slice qa qn qc, .slice qd qm qe] 32)) w' → w'.cell? ⟨w.heap.size, 0, none⟩ = some (.int .i64 ax) ∧ w'.cell? ⟨w.heap.size, 1, none⟩ = some (.int .i64 ay) ∧ w'.cell? ⟨w.heap.size, 2, none⟩ = some (.int .i64 bx) ∧ w'.cell? ⟨w.heap.size, 3, none⟩ = some (.int .i64 bY) ∧ w'.cell? ⟨w.heap.size, 4, none⟩ = some (.int .i64 ar) ∧ w'.cell? ⟨w.heap.size, 5, none⟩ = some (.bool lw) ∧ (∀ j, w'.frozen? ⟨w.heap.size, j, none⟩ = false) ∧ w'.cell? ⟨w.heap.size + 1, 0, none⟩ = some (.bool p.1.1) ∧ w'.cell? ⟨w.heap.size + 1, 1, none⟩ = some (.slice pa pn pc) ∧ w'.cell? ⟨w.heap.size + 1, 2, none⟩ = some (.slice pd pm pe) ∧ (∀ j, w'.frozen? ⟨w.heap.size + 1, j, none⟩ = false) ∧ w'.cell? ⟨w.heap.size + 1 + 1, 0, none⟩ = some (.bool q.1.1) ∧ w'.cell? ⟨w.heap.size + 1 + 1, 1, none⟩ = some (.slice qa qn qc) ∧ w'.cell? ⟨w.heap.size + 1 + 1, 2, none⟩ = some (.slice qd qm qe) ∧ (∀ j, w'.frozen? ⟨w.heap.size + 1 + 1, j, none⟩ = false) := fun w' h => ⟨box_new (by simp) (More.un (More.un h)) 0, box_new (by simp) (More.un (More.un h)) 1, box_new (by simp) (More.un (More.un h)) 2, box_new (by simp) (More.un (More.un h)) 3, box_new (by simp) (More.un (More.un h)) 4, box_new (by simp) (More.un (More.un h)) 5, fun j => box_free (by simp) (More.un (More.un h)) j, box_new (by simp) (More.un h) 0, box_new (by simp) (More.un h) 1, box_new (by simp) (More.un h) 2, fun j => box_free (by simp) (More.un h) j, box_new (by simp) h 0, box_new (by simp) h 1, box_new (by simp) h 2, fun j => box_free (by simp) h j⟩
    have HC := fun (w' : World) (h : Turns [] (((w.alloc (.cells #[.int .i64 ax, .int .i64 ay, .int .i64 bx, .int .i64 bY, .int .i64 ar, .bool lw] 26)).alloc (.cells #[.bool p.1.1, .slice pa pn pc, .slice pd pm pe] 32)).alloc (.cells #[.bool q.1.1, .slice qa qn qc, .slice qd qm qe] 32)) w') => HB w' (Turns.more h)
    go_enter Try.func28, Try.ntmps28
    go_wp2_with fail
    refine wp_region_held_drew (S := (fun w' => Turns [] (((w.alloc (.cells #[.int .i64 ax, .int .i64 ay, .int .i64 bx, .int .i64 bY, .int .i64 ar, .bool lw] 26)).alloc (.cells #[.bool p.1.1, .slice pa pn pc, .slice pd pm pe] 32)).alloc (.cells #[.bool q.1.1, .slice qa qn qc, .slice qd qm qe] 32)) w')) (by kernel_rfl) ?_ (fun hHeld => ?_)
    · first | exact tC | exact mC2
    refine tk (v := ?_) 0 ⟨some 7, _, _, _, _, _⟩ rfl ?_ ?_
    rotate_left 2
    · (intro w hSw; (try dsimp only at hSw); go_simp; (try with_reducible rfl))
    (try simp only [Act.put, List.setIfInBounds_toArray, List.set_cons_zero, List.set_cons_succ])
    refine tk (v := ?_) 1 ⟨some 8, _, _, _, _, _⟩ rfl ?_ ?_
    rotate_left 2
    · (intro w hSw; (try dsimp only at hSw); go_simp; (try with_reducible rfl))
    (try simp only [Act.put, List.setIfInBounds_toArray, List.set_cons_zero, List.set_cons_succ])
    refine tk (v := ?_) 2 ⟨some 9, _, _, _, _, _⟩ rfl ?_ ?_
    rotate_left 2
    · (intro w hSw; (try dsimp only at hSw); go_simp; (try with_reducible rfl))
    (try simp only [Act.put, List.setIfInBounds_toArray, List.set_cons_zero, List.set_cons_succ])
    refine tk (v := ?_) 4 ⟨some 11, _, _, _, _, _⟩ rfl ?_ ?_
    rotate_left 2
    · (intro w hSw; (try dsimp only at hSw); go_simp; (try with_reducible rfl))
    (try simp only [Act.put, List.setIfInBounds_toArray, List.set_cons_zero, List.set_cons_succ])
    refine wpAnyH_ready (rs := [3]) (by kernel_rfl) (by simp) ?_
    refine AllReadyH.cons (o := ⟨some 10, _, _, _, _, _⟩) rfl (fun K hK => ?_) AllReadyH.nil
    go_simp
    (go_at_call 26; (with_reducible refine (impl_ratInt ax _ HIax.out).mono ?_); rintro e w3 ⟨u3, v3, rfl, hb3, g3⟩; rw [SIax.out]; obtain ⟨r3a, r3n, r3c, r3d, r3m, r3e, rfl, rfl⟩ := g3.sh; have G3 := Lib.hid (int_raw SIax.out g3); clear g3; have HX3 : More (((w.alloc (.cells #[.int .i64 ax, .int .i64 ay, .int .i64 bx, .int .i64 bY, .int .i64 ar, .bool lw] 26)).alloc (.cells #[.bool p.1.1, .slice pa pn pc, .slice pd pm pe] 32)).alloc (.cells #[.bool q.1.1, .slice qa qn qc, .slice qd qm qe] 32)) w3 := mC; have HB3 := HB _ HX3; have hz3 := More.size HX3; (try simp at hz3); have hb3 := hb3)
    refine hK.out _ _ ?_ (fun hHeld => ?_)
    · first | exact tC | exact mC2
    clear hK K
    (try simp only [Act.put, List.setIfInBounds_toArray, List.set_cons_zero, List.set_cons_succ])
    refine wpAnyH_ready (rs := [5]) (by kernel_rfl) (by simp) ?_
    refine AllReadyH.cons (o := ⟨some 12, _, _, _, _, _⟩) rfl (fun K hK => ?_) AllReadyH.nil
    go_simp
    (go_at_call 58; (with_reducible refine (impl_ratCmpX (encR (frInt ax)) sa (.slice r3a r3n r3c) (.slice r3d r3m r3e) p p.1.1 (.slice pa pn pc) (.slice pd pm pe) _ KIax.out Kp.out (Ty.at_more G3.out mC) (Ty.at_more Hp.out mC)).mono ?_); rintro e w4 ⟨rfl, hb4⟩; rw [C.out]; have HX4 : More (((w.alloc (.cells #[.int .i64 ax, .int .i64 ay, .int .i64 bx, .int .i64 bY, .int .i64 ar, .bool lw] 26)).alloc (.cells #[.bool p.1.1, .slice pa pn pc, .slice pd pm pe] 32)).alloc (.cells #[.bool q.1.1, .slice qa qn qc, .slice qd qm qe] 32)) w4 := mC; have HB4 := HB _ HX4; have hz4 := More.size HX4; (try simp at hz4); have hb4 := hb4)
    refine hK.out _ _ ?_ (fun hHeld => ?_)
    · first | exact tC | exact mC2
    clear hK K
    (try simp only [Act.put, List.setIfInBounds_toArray, List.set_cons_zero, List.set_cons_succ])
    refine tk (v := ?_) 6 ⟨some 13, _, _, _, _, _⟩ rfl ?_ ?_
    rotate_left 2
    · (intro w hSw; (try dsimp only at hSw); go_simp; (try with_reducible rfl))
    (try simp only [Act.put, List.setIfInBounds_toArray, List.set_cons_zero, List.set_cons_succ])
    refine tk (v := ?_) 7 ⟨some 14, _, _, _, _, _⟩ rfl ?_ ?_
    rotate_left 2
    · (intro w hSw; (try dsimp only at hSw); go_simp; (try with_reducible rfl))
    (try simp only [Act.put, List.setIfInBounds_toArray, List.set_cons_zero, List.set_cons_succ])
    refine tk0 8 ⟨some 15, _, _, _, _, _⟩ rfl ?_
    (try simp only [Act.put, List.setIfInBounds_toArray, List.set_cons_zero, List.set_cons_succ])
    refine tk0 9 ⟨some 16, _, _, _, _, _⟩ rfl ?_
    (try simp only [Act.put, List.setIfInBounds_toArray, List.set_cons_zero, List.set_cons_succ])
    refine tk0 10 ⟨some 17, _, _, _, _, _⟩ rfl ?_
    (try simp only [Act.put, List.setIfInBounds_toArray, List.set_cons_zero, List.set_cons_succ])
    refine tk0 11 ⟨some 18, _, _, _, _, _⟩ rfl ?_
    (try simp only [Act.put, List.setIfInBounds_toArray, List.set_cons_zero, List.set_cons_succ])
    refine tk0 12 ⟨some 19, _, _, _, _, _⟩ rfl ?_
    (try simp only [Act.put, List.setIfInBounds_toArray, List.set_cons_zero, List.set_cons_succ])
    refine tk0 13 ⟨some 20, _, _, _, _, _⟩ rfl ?_
    (try simp only [Act.put, List.setIfInBounds_toArray, List.set_cons_zero, List.set_cons_succ])
    refine tk0 14 ⟨some 21, _, _, _, _, _⟩ rfl ?_
    (try simp only [Act.put, List.setIfInBounds_toArray, List.set_cons_zero, List.set_cons_succ])
    refine tk (v := ?_) 15 ⟨some 22, _, _, _, _, _⟩ rfl ?_ ?_
    rotate_left 2
    · (intro w hSw; (try dsimp only at hSw); go_simp; (try with_reducible rfl))
    (try simp only [Act.put, List.setIfInBounds_toArray, List.set_cons_zero, List.set_cons_succ])
    refine tk (v := ?_) 16 ⟨some 6, _, _, _, _, _⟩ rfl ?_ ?_
    rotate_left 2
    · (intro w hSw; (try dsimp only at hSw); go_simp; (try with_reducible rfl))
    (try simp only [Act.put, List.setIfInBounds_toArray, List.set_cons_zero, List.set_cons_succ])
    refine wpAnyH_done (by kernel_rfl) ?_ _
    go_wp2_with fail
    go_ret
    exact ⟨ret_bool (by first | (simp [spansB, C.out]; done) | (simp [spansB, C.out] <;> omega)), mC⟩
  have hCd : decide (c0 ≤ 0) = true := decide_eq_true (by omega)
  obtain ⟨d0, d0h⟩ : ∃ c, rCmp (encR (frInt bx)) q = c := ⟨_, rfl⟩
  obtain ⟨d0l, d0u⟩ : -1 ≤ d0 ∧ d0 ≤ 1 := by rw [← d0h]; exact rCmp_range _ _
  have D := Lib.hid d0h; clear d0h
  rcases (show 0 ≤ d0 ∨ d0 < 0 by omega) with hD | hD
  rotate_left
  · have hDd : decide (0 ≤ d0) = false := decide_eq_false (by omega)
    have HX : More (((w.alloc (.cells #[.int .i64 ax, .int .i64 ay, .int .i64 bx, .int .i64 bY, .int .i64 ar, .bool lw] 26)).alloc (.cells #[.bool p.1.1, .slice pa pn pc, .slice pd pm pe] 32)).alloc (.cells #[.bool q.1.1, .slice qa qn qc, .slice qd qm qe] 32)) (((w.alloc (.cells #[.int .i64 ax, .int .i64 ay, .int .i64 bx, .int .i64 bY, .int .i64 ar, .bool lw] 26)).alloc (.cells #[.bool p.1.1, .slice pa pn pc, .slice pd pm pe] 32)).alloc (.cells #[.bool q.1.1, .slice qa qn qc, .slice qd qm qe] 32)) := More.refl _
    have HB : ∀ w', More (((w.alloc (.cells #[.int .i64 ax, .int .i64 ay, .int .i64 bx, .int .i64 bY, .int .i64 ar, .bool lw] 26)).alloc (.cells #[.bool p.1.1, .slice pa pn pc, .slice pd pm pe] 32)).alloc (.cells #[.bool q.1.1, .slice qa qn qc, .slice qd qm qe] 32)) w' → w'.cell? ⟨w.heap.size, 0, none⟩ = some (.int .i64 ax) ∧ w'.cell? ⟨w.heap.size, 1, none⟩ = some (.int .i64 ay) ∧ w'.cell? ⟨w.heap.size, 2, none⟩ = some (.int .i64 bx) ∧ w'.cell? ⟨w.heap.size, 3, none⟩ = some (.int .i64 bY) ∧ w'.cell? ⟨w.heap.size, 4, none⟩ = some (.int .i64 ar) ∧ w'.cell? ⟨w.heap.size, 5, none⟩ = some (.bool lw) ∧ (∀ j, w'.frozen? ⟨w.heap.size, j, none⟩ = false) ∧ w'.cell? ⟨w.heap.size + 1, 0, none⟩ = some (.bool p.1.1) ∧ w'.cell? ⟨w.heap.size + 1, 1, none⟩ = some (.slice pa pn pc) ∧ w'.cell? ⟨w.heap.size + 1, 2, none⟩ = some (.slice pd pm pe) ∧ (∀ j, w'.frozen? ⟨w.heap.size + 1, j, none⟩ = false) ∧ w'.cell? ⟨w.heap.size + 1 + 1, 0, none⟩ = some (.bool q.1.1) ∧ w'.cell? ⟨w.heap.size + 1 + 1, 1, none⟩ = some (.slice qa qn qc) ∧ w'.cell? ⟨w.heap.size + 1 + 1, 2, none⟩ = some (.slice qd qm qe) ∧ (∀ j, w'.frozen? ⟨w.heap.size + 1 + 1, j, none⟩ = false) := fun w' h => ⟨box_new (by simp) (More.un (More.un h)) 0, box_new (by simp) (More.un (More.un h)) 1, box_new (by simp) (More.un (More.un h)) 2, box_new (by simp) (More.un (More.un h)) 3, box_new (by simp) (More.un (More.un h)) 4, box_new (by simp) (More.un (More.un h)) 5, fun j => box_free (by simp) (More.un (More.un h)) j, box_new (by simp) (More.un h) 0, box_new (by simp) (More.un h) 1, box_new (by simp) (More.un h) 2, fun j => box_free (by simp) (More.un h) j, box_new (by simp) h 0, box_new (by simp) h 1, box_new (by simp) h 2, fun j => box_free (by simp) h j⟩
    have HC := fun (w' : World) (h : Turns [] (((w.alloc (.cells #[.int .i64 ax, .int .i64 ay, .int .i64 bx, .int .i64 bY, .int .i64 ar, .bool lw] 26)).alloc (.cells #[.bool p.1.1, .slice pa pn pc, .slice pd pm pe] 32)).alloc (.cells #[.bool q.1.1, .slice qa qn qc, .slice qd qm qe] 32)) w') => HB w' (Turns.more h)
    go_enter Try.func28, Try.ntmps28
    go_wp2_with fail
    refine wp_region_held_drew (S := (fun w' => Turns [] (((w.alloc (.cells #[.int .i64 ax, .int .i64 ay, .int .i64 bx, .int .i64 bY, .int .i64 ar, .bool lw] 26)).alloc (.cells #[.bool p.1.1, .slice pa pn pc, .slice pd pm pe] 32)).alloc (.cells #[.bool q.1.1, .slice qa qn qc, .slice qd qm qe] 32)) w')) (by kernel_rfl) ?_ (fun hHeld => ?_)
    · first | exact tC | exact mC2
    refine tk (v := ?_) 0 ⟨some 7, _, _, _, _, _⟩ rfl ?_ ?_
    rotate_left 2
    · (intro w hSw; (try dsimp only at hSw); go_simp; (try with_reducible rfl))
    (try simp only [Act.put, List.setIfInBounds_toArray, List.set_cons_zero, List.set_cons_succ])
    refine tk (v := ?_) 1 ⟨some 8, _, _, _, _, _⟩ rfl ?_ ?_
    rotate_left 2
    · (intro w hSw; (try dsimp only at hSw); go_simp; (try with_reducible rfl))
    (try simp only [Act.put, List.setIfInBounds_toArray, List.set_cons_zero, List.set_cons_succ])
    refine tk (v := ?_) 2 ⟨some 9, _, _, _, _, _⟩ rfl ?_ ?_
    rotate_left 2
    · (intro w hSw; (try dsimp only at hSw); go_simp; (try with_reducible rfl))
    (try simp only [Act.put, List.setIfInBounds_toArray, List.set_cons_zero, List.set_cons_succ])
    refine tk (v := ?_) 4 ⟨some 11, _, _, _, _, _⟩ rfl ?_ ?_
    rotate_left 2
    · (intro w hSw; (try dsimp only at hSw); go_simp; (try with_reducible rfl))
    (try simp only [Act.put, List.setIfInBounds_toArray, List.set_cons_zero, List.set_cons_succ])
    refine wpAnyH_ready (rs := [3]) (by kernel_rfl) (by simp) ?_
    refine AllReadyH.cons (o := ⟨some 10, _, _, _, _, _⟩) rfl (fun K hK => ?_) AllReadyH.nil
    go_simp
    (go_at_call 26; (with_reducible refine (impl_ratInt ax _ HIax.out).mono ?_); rintro e w3 ⟨u3, v3, rfl, hb3, g3⟩; rw [SIax.out]; obtain ⟨r3a, r3n, r3c, r3d, r3m, r3e, rfl, rfl⟩ := g3.sh; have G3 := Lib.hid (int_raw SIax.out g3); clear g3; have HX3 : More (((w.alloc (.cells #[.int .i64 ax, .int .i64 ay, .int .i64 bx, .int .i64 bY, .int .i64 ar, .bool lw] 26)).alloc (.cells #[.bool p.1.1, .slice pa pn pc, .slice pd pm pe] 32)).alloc (.cells #[.bool q.1.1, .slice qa qn qc, .slice qd qm qe] 32)) w3 := mC; have HB3 := HB _ HX3; have hz3 := More.size HX3; (try simp at hz3); have hb3 := hb3)
    refine hK.out _ _ ?_ (fun hHeld => ?_)
    · first | exact tC | exact mC2
    clear hK K
    (try simp only [Act.put, List.setIfInBounds_toArray, List.set_cons_zero, List.set_cons_succ])
    refine wpAnyH_ready (rs := [5]) (by kernel_rfl) (by simp) ?_
    refine AllReadyH.cons (o := ⟨some 12, _, _, _, _, _⟩) rfl (fun K hK => ?_) AllReadyH.nil
    go_simp
    (go_at_call 58; (with_reducible refine (impl_ratCmpX (encR (frInt ax)) sa (.slice r3a r3n r3c) (.slice r3d r3m r3e) p p.1.1 (.slice pa pn pc) (.slice pd pm pe) _ KIax.out Kp.out (Ty.at_more G3.out mC) (Ty.at_more Hp.out mC)).mono ?_); rintro e w4 ⟨rfl, hb4⟩; rw [C.out]; have HX4 : More (((w.alloc (.cells #[.int .i64 ax, .int .i64 ay, .int .i64 bx, .int .i64 bY, .int .i64 ar, .bool lw] 26)).alloc (.cells #[.bool p.1.1, .slice pa pn pc, .slice pd pm pe] 32)).alloc (.cells #[.bool q.1.1, .slice qa qn qc, .slice qd qm qe] 32)) w4 := mC; have HB4 := HB _ HX4; have hz4 := More.size HX4; (try simp at hz4); have hb4 := hb4)
    refine hK.out _ _ ?_ (fun hHeld => ?_)
    · first | exact tC | exact mC2
    clear hK K
    (try simp only [Act.put, List.setIfInBounds_toArray, List.set_cons_zero, List.set_cons_succ])
    refine tk (v := ?_) 6 ⟨some 13, _, _, _, _, _⟩ rfl ?_ ?_
    rotate_left 2
    · (intro w hSw; (try dsimp only at hSw); go_simp; (try with_reducible rfl))
    (try simp only [Act.put, List.setIfInBounds_toArray, List.set_cons_zero, List.set_cons_succ])
    refine tk (v := ?_) 7 ⟨some 14, _, _, _, _, _⟩ rfl ?_ ?_
    rotate_left 2
    · (intro w hSw; (try dsimp only at hSw); go_simp; (try with_reducible rfl))
    (try simp only [Act.put, List.setIfInBounds_toArray, List.set_cons_zero, List.set_cons_succ])
    refine tk (v := ?_) 8 ⟨some 15, _, _, _, _, _⟩ rfl ?_ ?_
    rotate_left 2
    · (intro w hSw; (try dsimp only at hSw); go_simp; (try with_reducible rfl))
    (try simp only [Act.put, List.setIfInBounds_toArray, List.set_cons_zero, List.set_cons_succ])
    refine tk (v := ?_) 9 ⟨some 16, _, _, _, _, _⟩ rfl ?_ ?_
    rotate_left 2
    · (intro w hSw; (try dsimp only at hSw); go_simp; (try with_reducible rfl))
    (try simp only [Act.put, List.setIfInBounds_toArray, List.set_cons_zero, List.set_cons_succ])
    refine tk (v := ?_) 10 ⟨some 17, _, _, _, _, _⟩ rfl ?_ ?_
    rotate_left 2
    · (intro w hSw; (try dsimp only at hSw); go_simp; (try with_reducible rfl))
    (try simp only [Act.put, List.setIfInBounds_toArray, List.set_cons_zero, List.set_cons_succ])
    refine tk (v := ?_) 12 ⟨some 19, _, _, _, _, _⟩ rfl ?_ ?_
    rotate_left 2
    · (intro w hSw; (try dsimp only at hSw); go_simp; (try with_reducible rfl))
    (try simp only [Act.put, List.setIfInBounds_toArray, List.set_cons_zero, List.set_cons_succ])
    refine wpAnyH_ready (rs := [11]) (by kernel_rfl) (by simp) ?_
    refine AllReadyH.cons (o := ⟨some 18, _, _, _, _, _⟩) rfl (fun K hK => ?_) AllReadyH.nil
    go_simp
    (go_at_call 26; (with_reducible refine (impl_ratInt bx _ HIbx.out).mono ?_); rintro e w5 ⟨u5, v5, rfl, hb5, g5⟩; rw [SIbx.out]; obtain ⟨r5a, r5n, r5c, r5d, r5m, r5e, rfl, rfl⟩ := g5.sh; have G5 := Lib.hid (int_raw SIbx.out g5); clear g5; have HX5 : More (((w.alloc (.cells #[.int .i64 ax, .int .i64 ay, .int .i64 bx, .int .i64 bY, .int .i64 ar, .bool lw] 26)).alloc (.cells #[.bool p.1.1, .slice pa pn pc, .slice pd pm pe] 32)).alloc (.cells #[.bool q.1.1, .slice qa qn qc, .slice qd qm qe] 32)) w5 := mC; have HB5 := HB _ HX5; have hz5 := More.size HX5; (try simp at hz5); have hb5 := hb5)
    refine hK.out _ _ ?_ (fun hHeld => ?_)
    · first | exact tC | exact mC2
    clear hK K
    (try simp only [Act.put, List.setIfInBounds_toArray, List.set_cons_zero, List.set_cons_succ])
    refine wpAnyH_ready (rs := [13]) (by kernel_rfl) (by simp) ?_
    refine AllReadyH.cons (o := ⟨some 20, _, _, _, _, _⟩) rfl (fun K hK => ?_) AllReadyH.nil
    go_simp
    (go_at_call 58; (with_reducible refine (impl_ratCmpX (encR (frInt bx)) sb (.slice r5a r5n r5c) (.slice r5d r5m r5e) q q.1.1 (.slice qa qn qc) (.slice qd qm qe) _ KIbx.out Kq.out (Ty.at_more G5.out mC) (Ty.at_more Hq.out mC)).mono ?_); rintro e w6 ⟨rfl, hb6⟩; rw [D.out]; have HX6 : More (((w.alloc (.cells #[.int .i64 ax, .int .i64 ay, .int .i64 bx, .int .i64 bY, .int .i64 ar, .bool lw] 26)).alloc (.cells #[.bool p.1.1, .slice pa pn pc, .slice pd pm pe] 32)).alloc (.cells #[.bool q.1.1, .slice qa qn qc, .slice qd qm qe] 32)) w6 := mC; have HB6 := HB _ HX6; have hz6 := More.size HX6; (try simp at hz6); have hb6 := hb6)
    refine hK.out _ _ ?_ (fun hHeld => ?_)
    · first | exact tC | exact mC2
    clear hK K
    (try simp only [Act.put, List.setIfInBounds_toArray, List.set_cons_zero, List.set_cons_succ])
    refine tk (v := ?_) 14 ⟨some 21, _, _, _, _, _⟩ rfl ?_ ?_
    rotate_left 2
    · (intro w hSw; (try dsimp only at hSw); go_simp; (try with_reducible rfl))
    (try simp only [Act.put, List.setIfInBounds_toArray, List.set_cons_zero, List.set_cons_succ])
    refine tk (v := ?_) 15 ⟨some 22, _, _, _, _, _⟩ rfl ?_ ?_
    rotate_left 2
    · (intro w hSw; (try dsimp only at hSw); go_simp; (try with_reducible rfl))
    (try simp only [Act.put, List.setIfInBounds_toArray, List.set_cons_zero, List.set_cons_succ])
    refine tk (v := ?_) 16 ⟨some 6, _, _, _, _, _⟩ rfl ?_ ?_
    rotate_left 2
    · (intro w hSw; (try dsimp only at hSw); go_simp; (try with_reducible rfl))
    (try simp only [Act.put, List.setIfInBounds_toArray, List.set_cons_zero, List.set_cons_succ])
    refine wpAnyH_done (by kernel_rfl) ?_ _
    go_wp2_with fail
    go_ret
    exact ⟨ret_bool (by first | (simp [spansB, C.out, D.out]; done) | (simp [spansB, C.out, D.out] <;> omega)), mC⟩
  have hDd : decide (0 ≤ d0) = true := decide_eq_true (by omega)
  have HX : More (((w.alloc (.cells #[.int .i64 ax, .int .i64 ay, .int .i64 bx, .int .i64 bY, .int .i64 ar, .bool lw] 26)).alloc (.cells #[.bool p.1.1, .slice pa pn pc, .slice pd pm pe] 32)).alloc (.cells #[.bool q.1.1, .slice qa qn qc, .slice qd qm qe] 32)) (((w.alloc (.cells #[.int .i64 ax, .int .i64 ay, .int .i64 bx, .int .i64 bY, .int .i64 ar, .bool lw] 26)).alloc (.cells #[.bool p.1.1, .slice pa pn pc, .slice pd pm pe] 32)).alloc (.cells #[.bool q.1.1, .slice qa qn qc, .slice qd qm qe] 32)) := More.refl _
  have HB : ∀ w', More (((w.alloc (.cells #[.int .i64 ax, .int .i64 ay, .int .i64 bx, .int .i64 bY, .int .i64 ar, .bool lw] 26)).alloc (.cells #[.bool p.1.1, .slice pa pn pc, .slice pd pm pe] 32)).alloc (.cells #[.bool q.1.1, .slice qa qn qc, .slice qd qm qe] 32)) w' → w'.cell? ⟨w.heap.size, 0, none⟩ = some (.int .i64 ax) ∧ w'.cell? ⟨w.heap.size, 1, none⟩ = some (.int .i64 ay) ∧ w'.cell? ⟨w.heap.size, 2, none⟩ = some (.int .i64 bx) ∧ w'.cell? ⟨w.heap.size, 3, none⟩ = some (.int .i64 bY) ∧ w'.cell? ⟨w.heap.size, 4, none⟩ = some (.int .i64 ar) ∧ w'.cell? ⟨w.heap.size, 5, none⟩ = some (.bool lw) ∧ (∀ j, w'.frozen? ⟨w.heap.size, j, none⟩ = false) ∧ w'.cell? ⟨w.heap.size + 1, 0, none⟩ = some (.bool p.1.1) ∧ w'.cell? ⟨w.heap.size + 1, 1, none⟩ = some (.slice pa pn pc) ∧ w'.cell? ⟨w.heap.size + 1, 2, none⟩ = some (.slice pd pm pe) ∧ (∀ j, w'.frozen? ⟨w.heap.size + 1, j, none⟩ = false) ∧ w'.cell? ⟨w.heap.size + 1 + 1, 0, none⟩ = some (.bool q.1.1) ∧ w'.cell? ⟨w.heap.size + 1 + 1, 1, none⟩ = some (.slice qa qn qc) ∧ w'.cell? ⟨w.heap.size + 1 + 1, 2, none⟩ = some (.slice qd qm qe) ∧ (∀ j, w'.frozen? ⟨w.heap.size + 1 + 1, j, none⟩ = false) := fun w' h => ⟨box_new (by simp) (More.un (More.un h)) 0, box_new (by simp) (More.un (More.un h)) 1, box_new (by simp) (More.un (More.un h)) 2, box_new (by simp) (More.un (More.un h)) 3, box_new (by simp) (More.un (More.un h)) 4, box_new (by simp) (More.un (More.un h)) 5, fun j => box_free (by simp) (More.un (More.un h)) j, box_new (by simp) (More.un h) 0, box_new (by simp) (More.un h) 1, box_new (by simp) (More.un h) 2, fun j => box_free (by simp) (More.un h) j, box_new (by simp) h 0, box_new (by simp) h 1, box_new (by simp) h 2, fun j => box_free (by simp) h j⟩
  have HC := fun (w' : World) (h : Turns [] (((w.alloc (.cells #[.int .i64 ax, .int .i64 ay, .int .i64 bx, .int .i64 bY, .int .i64 ar, .bool lw] 26)).alloc (.cells #[.bool p.1.1, .slice pa pn pc, .slice pd pm pe] 32)).alloc (.cells #[.bool q.1.1, .slice qa qn qc, .slice qd qm qe] 32)) w') => HB w' (Turns.more h)
  go_enter Try.func28, Try.ntmps28
  go_wp2_with fail
  refine wp_region_held_drew (S := (fun w' => Turns [] (((w.alloc (.cells #[.int .i64 ax, .int .i64 ay, .int .i64 bx, .int .i64 bY, .int .i64 ar, .bool lw] 26)).alloc (.cells #[.bool p.1.1, .slice pa pn pc, .slice pd pm pe] 32)).alloc (.cells #[.bool q.1.1, .slice qa qn qc, .slice qd qm qe] 32)) w')) (by kernel_rfl) ?_ (fun hHeld => ?_)
  · first | exact tC | exact mC2
  refine tk (v := ?_) 0 ⟨some 7, _, _, _, _, _⟩ rfl ?_ ?_
  rotate_left 2
  · (intro w hSw; (try dsimp only at hSw); go_simp; (try with_reducible rfl))
  (try simp only [Act.put, List.setIfInBounds_toArray, List.set_cons_zero, List.set_cons_succ])
  refine tk (v := ?_) 1 ⟨some 8, _, _, _, _, _⟩ rfl ?_ ?_
  rotate_left 2
  · (intro w hSw; (try dsimp only at hSw); go_simp; (try with_reducible rfl))
  (try simp only [Act.put, List.setIfInBounds_toArray, List.set_cons_zero, List.set_cons_succ])
  refine tk (v := ?_) 2 ⟨some 9, _, _, _, _, _⟩ rfl ?_ ?_
  rotate_left 2
  · (intro w hSw; (try dsimp only at hSw); go_simp; (try with_reducible rfl))
  (try simp only [Act.put, List.setIfInBounds_toArray, List.set_cons_zero, List.set_cons_succ])
  refine tk (v := ?_) 4 ⟨some 11, _, _, _, _, _⟩ rfl ?_ ?_
  rotate_left 2
  · (intro w hSw; (try dsimp only at hSw); go_simp; (try with_reducible rfl))
  (try simp only [Act.put, List.setIfInBounds_toArray, List.set_cons_zero, List.set_cons_succ])
  refine wpAnyH_ready (rs := [3]) (by kernel_rfl) (by simp) ?_
  refine AllReadyH.cons (o := ⟨some 10, _, _, _, _, _⟩) rfl (fun K hK => ?_) AllReadyH.nil
  go_simp
  (go_at_call 26; (with_reducible refine (impl_ratInt ax _ HIax.out).mono ?_); rintro e w3 ⟨u3, v3, rfl, hb3, g3⟩; rw [SIax.out]; obtain ⟨r3a, r3n, r3c, r3d, r3m, r3e, rfl, rfl⟩ := g3.sh; have G3 := Lib.hid (int_raw SIax.out g3); clear g3; have HX3 : More (((w.alloc (.cells #[.int .i64 ax, .int .i64 ay, .int .i64 bx, .int .i64 bY, .int .i64 ar, .bool lw] 26)).alloc (.cells #[.bool p.1.1, .slice pa pn pc, .slice pd pm pe] 32)).alloc (.cells #[.bool q.1.1, .slice qa qn qc, .slice qd qm qe] 32)) w3 := mC; have HB3 := HB _ HX3; have hz3 := More.size HX3; (try simp at hz3); have hb3 := hb3)
  refine hK.out _ _ ?_ (fun hHeld => ?_)
  · first | exact tC | exact mC2
  clear hK K
  (try simp only [Act.put, List.setIfInBounds_toArray, List.set_cons_zero, List.set_cons_succ])
  refine wpAnyH_ready (rs := [5]) (by kernel_rfl) (by simp) ?_
  refine AllReadyH.cons (o := ⟨some 12, _, _, _, _, _⟩) rfl (fun K hK => ?_) AllReadyH.nil
  go_simp
  (go_at_call 58; (with_reducible refine (impl_ratCmpX (encR (frInt ax)) sa (.slice r3a r3n r3c) (.slice r3d r3m r3e) p p.1.1 (.slice pa pn pc) (.slice pd pm pe) _ KIax.out Kp.out (Ty.at_more G3.out mC) (Ty.at_more Hp.out mC)).mono ?_); rintro e w4 ⟨rfl, hb4⟩; rw [C.out]; have HX4 : More (((w.alloc (.cells #[.int .i64 ax, .int .i64 ay, .int .i64 bx, .int .i64 bY, .int .i64 ar, .bool lw] 26)).alloc (.cells #[.bool p.1.1, .slice pa pn pc, .slice pd pm pe] 32)).alloc (.cells #[.bool q.1.1, .slice qa qn qc, .slice qd qm qe] 32)) w4 := mC; have HB4 := HB _ HX4; have hz4 := More.size HX4; (try simp at hz4); have hb4 := hb4)
  refine hK.out _ _ ?_ (fun hHeld => ?_)
  · first | exact tC | exact mC2
  clear hK K
  (try simp only [Act.put, List.setIfInBounds_toArray, List.set_cons_zero, List.set_cons_succ])
  refine tk (v := ?_) 6 ⟨some 13, _, _, _, _, _⟩ rfl ?_ ?_
  rotate_left 2
  · (intro w hSw; (try dsimp only at hSw); go_simp; (try with_reducible rfl))
  (try simp only [Act.put, List.setIfInBounds_toArray, List.set_cons_zero, List.set_cons_succ])
  refine tk (v := ?_) 7 ⟨some 14, _, _, _, _, _⟩ rfl ?_ ?_
  rotate_left 2
  · (intro w hSw; (try dsimp only at hSw); go_simp; (try with_reducible rfl))
  (try simp only [Act.put, List.setIfInBounds_toArray, List.set_cons_zero, List.set_cons_succ])
  refine tk (v := ?_) 8 ⟨some 15, _, _, _, _, _⟩ rfl ?_ ?_
  rotate_left 2
  · (intro w hSw; (try dsimp only at hSw); go_simp; (try with_reducible rfl))
  (try simp only [Act.put, List.setIfInBounds_toArray, List.set_cons_zero, List.set_cons_succ])
  refine tk (v := ?_) 9 ⟨some 16, _, _, _, _, _⟩ rfl ?_ ?_
  rotate_left 2
  · (intro w hSw; (try dsimp only at hSw); go_simp; (try with_reducible rfl))
  (try simp only [Act.put, List.setIfInBounds_toArray, List.set_cons_zero, List.set_cons_succ])
  refine tk (v := ?_) 10 ⟨some 17, _, _, _, _, _⟩ rfl ?_ ?_
  rotate_left 2
  · (intro w hSw; (try dsimp only at hSw); go_simp; (try with_reducible rfl))
  (try simp only [Act.put, List.setIfInBounds_toArray, List.set_cons_zero, List.set_cons_succ])
  refine tk (v := ?_) 12 ⟨some 19, _, _, _, _, _⟩ rfl ?_ ?_
  rotate_left 2
  · (intro w hSw; (try dsimp only at hSw); go_simp; (try with_reducible rfl))
  (try simp only [Act.put, List.setIfInBounds_toArray, List.set_cons_zero, List.set_cons_succ])
  refine wpAnyH_ready (rs := [11]) (by kernel_rfl) (by simp) ?_
  refine AllReadyH.cons (o := ⟨some 18, _, _, _, _, _⟩) rfl (fun K hK => ?_) AllReadyH.nil
  go_simp
  (go_at_call 26; (with_reducible refine (impl_ratInt bx _ HIbx.out).mono ?_); rintro e w5 ⟨u5, v5, rfl, hb5, g5⟩; rw [SIbx.out]; obtain ⟨r5a, r5n, r5c, r5d, r5m, r5e, rfl, rfl⟩ := g5.sh; have G5 := Lib.hid (int_raw SIbx.out g5); clear g5; have HX5 : More (((w.alloc (.cells #[.int .i64 ax, .int .i64 ay, .int .i64 bx, .int .i64 bY, .int .i64 ar, .bool lw] 26)).alloc (.cells #[.bool p.1.1, .slice pa pn pc, .slice pd pm pe] 32)).alloc (.cells #[.bool q.1.1, .slice qa qn qc, .slice qd qm qe] 32)) w5 := mC; have HB5 := HB _ HX5; have hz5 := More.size HX5; (try simp at hz5); have hb5 := hb5)
  refine hK.out _ _ ?_ (fun hHeld => ?_)
  · first | exact tC | exact mC2
  clear hK K
  (try simp only [Act.put, List.setIfInBounds_toArray, List.set_cons_zero, List.set_cons_succ])
  refine wpAnyH_ready (rs := [13]) (by kernel_rfl) (by simp) ?_
  refine AllReadyH.cons (o := ⟨some 20, _, _, _, _, _⟩) rfl (fun K hK => ?_) AllReadyH.nil
  go_simp
  (go_at_call 58; (with_reducible refine (impl_ratCmpX (encR (frInt bx)) sb (.slice r5a r5n r5c) (.slice r5d r5m r5e) q q.1.1 (.slice qa qn qc) (.slice qd qm qe) _ KIbx.out Kq.out (Ty.at_more G5.out mC) (Ty.at_more Hq.out mC)).mono ?_); rintro e w6 ⟨rfl, hb6⟩; rw [D.out]; have HX6 : More (((w.alloc (.cells #[.int .i64 ax, .int .i64 ay, .int .i64 bx, .int .i64 bY, .int .i64 ar, .bool lw] 26)).alloc (.cells #[.bool p.1.1, .slice pa pn pc, .slice pd pm pe] 32)).alloc (.cells #[.bool q.1.1, .slice qa qn qc, .slice qd qm qe] 32)) w6 := mC; have HB6 := HB _ HX6; have hz6 := More.size HX6; (try simp at hz6); have hb6 := hb6)
  refine hK.out _ _ ?_ (fun hHeld => ?_)
  · first | exact tC | exact mC2
  clear hK K
  (try simp only [Act.put, List.setIfInBounds_toArray, List.set_cons_zero, List.set_cons_succ])
  refine tk (v := ?_) 14 ⟨some 21, _, _, _, _, _⟩ rfl ?_ ?_
  rotate_left 2
  · (intro w hSw; (try dsimp only at hSw); go_simp; (try with_reducible rfl))
  (try simp only [Act.put, List.setIfInBounds_toArray, List.set_cons_zero, List.set_cons_succ])
  refine tk (v := ?_) 15 ⟨some 22, _, _, _, _, _⟩ rfl ?_ ?_
  rotate_left 2
  · (intro w hSw; (try dsimp only at hSw); go_simp; (try with_reducible rfl))
  (try simp only [Act.put, List.setIfInBounds_toArray, List.set_cons_zero, List.set_cons_succ])
  refine tk (v := ?_) 16 ⟨some 6, _, _, _, _, _⟩ rfl ?_ ?_
  rotate_left 2
  · (intro w hSw; (try dsimp only at hSw); go_simp; (try with_reducible rfl))
  (try simp only [Act.put, List.setIfInBounds_toArray, List.set_cons_zero, List.set_cons_succ])
  refine wpAnyH_done (by kernel_rfl) ?_ _
  go_wp2_with fail
  go_ret
  exact ⟨ret_bool (by first | (simp [spansB, C.out, D.out]; done) | (simp [spansB, C.out, D.out] <;> omega)), mC⟩
set_option maxRecDepth 4000 in
set_option maxHeartbeats 3200000 in
theorem impl_areRats (cs1 : List Value) (p : QR) (cs2 : List Value) (q : QR) (w : World) (hv1 : tRat.at w cs1 p) (hw1 : wRat p ≤ 1048576) (hv2 : tRat.at w cs2 q) (hw2 : wRat q ≤ 1048576) :
    Calls Try.prog 34 #[.agg cs1.toArray, .agg cs2.toArray] w fun e w' => e = .returned (.bool (ratOkB p && ratOkB q)) ∧ More w w' := by
  obtain ⟨pa, pn, pc, pd, pm, pe, rfl⟩ := sh_Rat hv1
  have Hp := Lib.hid hv1; have Wp := Lib.hid hw1
  have HV1 : Hid (tRat.at w [.bool p.1.1, .slice pa pn pc, .slice pd pm pe] p) := Lib.hid hv1; have HW1 := Lib.hid hw1; clear hv1 hw1
  obtain ⟨qa, qn, qc, qd, qm, qe, rfl⟩ := sh_Rat hv2
  have Hq := Lib.hid hv2; have Wq := Lib.hid hw2
  have HV2 : Hid (tRat.at w [.bool q.1.1, .slice qa qn qc, .slice qd qm qe] q) := Lib.hid hv2; have HW2 := Lib.hid hw2; clear hv2 hw2
  show Calls Try.prog 34 #[.agg #[.bool p.1.1, .slice pa pn pc, .slice pd pm pe], .agg #[.bool q.1.1, .slice qa qn qc, .slice qd qm qe]] w _
  rcases Bool.eq_false_or_eq_true (ratOkB p) with Kpk | Kpk
  rotate_left
  · have Kp := Lib.hid Kpk; clear Kpk
    have HX : More ((w.alloc (.cells #[.bool p.1.1, .slice pa pn pc, .slice pd pm pe] 32)).alloc (.cells #[.bool q.1.1, .slice qa qn qc, .slice qd qm qe] 32)) ((w.alloc (.cells #[.bool p.1.1, .slice pa pn pc, .slice pd pm pe] 32)).alloc (.cells #[.bool q.1.1, .slice qa qn qc, .slice qd qm qe] 32)) := More.refl _
    have HB : ∀ w', More ((w.alloc (.cells #[.bool p.1.1, .slice pa pn pc, .slice pd pm pe] 32)).alloc (.cells #[.bool q.1.1, .slice qa qn qc, .slice qd qm qe] 32)) w' → w'.cell? ⟨w.heap.size, 0, none⟩ = some (.bool p.1.1) ∧ w'.cell? ⟨w.heap.size, 1, none⟩ = some (.slice pa pn pc) ∧ w'.cell? ⟨w.heap.size, 2, none⟩ = some (.slice pd pm pe) ∧ (∀ j, w'.frozen? ⟨w.heap.size, j, none⟩ = false) ∧ w'.cell? ⟨w.heap.size + 1, 0, none⟩ = some (.bool q.1.1) ∧ w'.cell? ⟨w.heap.size + 1, 1, none⟩ = some (.slice qa qn qc) ∧ w'.cell? ⟨w.heap.size + 1, 2, none⟩ = some (.slice qd qm qe) ∧ (∀ j, w'.frozen? ⟨w.heap.size + 1, j, none⟩ = false) := fun w' h => ⟨box_new (by simp) (More.un h) 0, box_new (by simp) (More.un h) 1, box_new (by simp) (More.un h) 2, fun j => box_free (by simp) (More.un h) j, box_new (by simp) h 0, box_new (by simp) h 1, box_new (by simp) h 2, fun j => box_free (by simp) h j⟩
    have HC := fun (w' : World) (h : Turns [] ((w.alloc (.cells #[.bool p.1.1, .slice pa pn pc, .slice pd pm pe] 32)).alloc (.cells #[.bool q.1.1, .slice qa qn qc, .slice qd qm qe] 32)) w') => HB w' (Turns.more h)
    go_enter Try.func34, Try.ntmps34
    go_wp2_with (first | (go_at_call 30; (with_reducible refine (impl_RatOk p.1.1 (.slice pa pn pc) (.slice pd pm pe) p _ (Ty.at_more Hp.out mC) Wp.out).mono ?_); rintro e w1 ⟨rfl, hb1⟩; have HX1 : More ((w.alloc (.cells #[.bool p.1.1, .slice pa pn pc, .slice pd pm pe] 32)).alloc (.cells #[.bool q.1.1, .slice qa qn qc, .slice qd qm qe] 32)) w1 := mC; have HB1 := HB _ HX1; have hz1 := More.size HX1; (try simp at hz1); have hb1 := hb1; rw [Kp.out]))
    skip
    go_ret
    exact ⟨ret_bool (by simp [Kp.out]), mC⟩
  have Kp := Lib.hid Kpk; clear Kpk
  rcases Bool.eq_false_or_eq_true (ratOkB q) with Kqk | Kqk
  rotate_left
  · have Kq := Lib.hid Kqk; clear Kqk
    have HX : More ((w.alloc (.cells #[.bool p.1.1, .slice pa pn pc, .slice pd pm pe] 32)).alloc (.cells #[.bool q.1.1, .slice qa qn qc, .slice qd qm qe] 32)) ((w.alloc (.cells #[.bool p.1.1, .slice pa pn pc, .slice pd pm pe] 32)).alloc (.cells #[.bool q.1.1, .slice qa qn qc, .slice qd qm qe] 32)) := More.refl _
    have HB : ∀ w', More ((w.alloc (.cells #[.bool p.1.1, .slice pa pn pc, .slice pd pm pe] 32)).alloc (.cells #[.bool q.1.1, .slice qa qn qc, .slice qd qm qe] 32)) w' → w'.cell? ⟨w.heap.size, 0, none⟩ = some (.bool p.1.1) ∧ w'.cell? ⟨w.heap.size, 1, none⟩ = some (.slice pa pn pc) ∧ w'.cell? ⟨w.heap.size, 2, none⟩ = some (.slice pd pm pe) ∧ (∀ j, w'.frozen? ⟨w.heap.size, j, none⟩ = false) ∧ w'.cell? ⟨w.heap.size + 1, 0, none⟩ = some (.bool q.1.1) ∧ w'.cell? ⟨w.heap.size + 1, 1, none⟩ = some (.slice qa qn qc) ∧ w'.cell? ⟨w.heap.size + 1, 2, none⟩ = some (.slice qd qm qe) ∧ (∀ j, w'.frozen? ⟨w.heap.size + 1, j, none⟩ = false) := fun w' h => ⟨box_new (by simp) (More.un h) 0, box_new (by simp) (More.un h) 1, box_new (by simp) (More.un h) 2, fun j => box_free (by simp) (More.un h) j, box_new (by simp) h 0, box_new (by simp) h 1, box_new (by simp) h 2, fun j => box_free (by simp) h j⟩
    have HC := fun (w' : World) (h : Turns [] ((w.alloc (.cells #[.bool p.1.1, .slice pa pn pc, .slice pd pm pe] 32)).alloc (.cells #[.bool q.1.1, .slice qa qn qc, .slice qd qm qe] 32)) w') => HB w' (Turns.more h)
    go_enter Try.func34, Try.ntmps34
    go_wp2_with (first | (go_at_call 30; (with_reducible refine (impl_RatOk p.1.1 (.slice pa pn pc) (.slice pd pm pe) p _ (Ty.at_more Hp.out mC) Wp.out).mono ?_); rintro e w1 ⟨rfl, hb1⟩; have HX1 : More ((w.alloc (.cells #[.bool p.1.1, .slice pa pn pc, .slice pd pm pe] 32)).alloc (.cells #[.bool q.1.1, .slice qa qn qc, .slice qd qm qe] 32)) w1 := mC; have HB1 := HB _ HX1; have hz1 := More.size HX1; (try simp at hz1); have hb1 := hb1; rw [Kp.out]) | (go_at_call 30; (with_reducible refine (impl_RatOk q.1.1 (.slice qa qn qc) (.slice qd qm qe) q _ (Ty.at_more Hq.out mC) Wq.out).mono ?_); rintro e w2 ⟨rfl, hb2⟩; have HX2 : More ((w.alloc (.cells #[.bool p.1.1, .slice pa pn pc, .slice pd pm pe] 32)).alloc (.cells #[.bool q.1.1, .slice qa qn qc, .slice qd qm qe] 32)) w2 := mC; have HB2 := HB _ HX2; have hz2 := More.size HX2; (try simp at hz2); have hb2 := hb2; rw [Kq.out]))
    skip
    go_ret
    exact ⟨ret_bool (by simp [Kp.out, Kq.out]), mC⟩
  have Kq := Lib.hid Kqk; clear Kqk
  have HX : More ((w.alloc (.cells #[.bool p.1.1, .slice pa pn pc, .slice pd pm pe] 32)).alloc (.cells #[.bool q.1.1, .slice qa qn qc, .slice qd qm qe] 32)) ((w.alloc (.cells #[.bool p.1.1, .slice pa pn pc, .slice pd pm pe] 32)).alloc (.cells #[.bool q.1.1, .slice qa qn qc, .slice qd qm qe] 32)) := More.refl _
  have HB : ∀ w', More ((w.alloc (.cells #[.bool p.1.1, .slice pa pn pc, .slice pd pm pe] 32)).alloc (.cells #[.bool q.1.1, .slice qa qn qc, .slice qd qm qe] 32)) w' → w'.cell? ⟨w.heap.size, 0, none⟩ = some (.bool p.1.1) ∧ w'.cell? ⟨w.heap.size, 1, none⟩ = some (.slice pa pn pc) ∧ w'.cell? ⟨w.heap.size, 2, none⟩ = some (.slice pd pm pe) ∧ (∀ j, w'.frozen? ⟨w.heap.size, j, none⟩ = false) ∧ w'.cell? ⟨w.heap.size + 1, 0, none⟩ = some (.bool q.1.1) ∧ w'.cell? ⟨w.heap.size + 1, 1, none⟩ = some (.slice qa qn qc) ∧ w'.cell? ⟨w.heap.size + 1, 2, none⟩ = some (.slice qd qm qe) ∧ (∀ j, w'.frozen? ⟨w.heap.size + 1, j, none⟩ = false) := fun w' h => ⟨box_new (by simp) (More.un h) 0, box_new (by simp) (More.un h) 1, box_new (by simp) (More.un h) 2, fun j => box_free (by simp) (More.un h) j, box_new (by simp) h 0, box_new (by simp) h 1, box_new (by simp) h 2, fun j => box_free (by simp) h j⟩
  have HC := fun (w' : World) (h : Turns [] ((w.alloc (.cells #[.bool p.1.1, .slice pa pn pc, .slice pd pm pe] 32)).alloc (.cells #[.bool q.1.1, .slice qa qn qc, .slice qd qm qe] 32)) w') => HB w' (Turns.more h)
  go_enter Try.func34, Try.ntmps34
  go_wp2_with (first | (go_at_call 30; (with_reducible refine (impl_RatOk p.1.1 (.slice pa pn pc) (.slice pd pm pe) p _ (Ty.at_more Hp.out mC) Wp.out).mono ?_); rintro e w1 ⟨rfl, hb1⟩; have HX1 : More ((w.alloc (.cells #[.bool p.1.1, .slice pa pn pc, .slice pd pm pe] 32)).alloc (.cells #[.bool q.1.1, .slice qa qn qc, .slice qd qm qe] 32)) w1 := mC; have HB1 := HB _ HX1; have hz1 := More.size HX1; (try simp at hz1); have hb1 := hb1; rw [Kp.out]) | (go_at_call 30; (with_reducible refine (impl_RatOk q.1.1 (.slice qa qn qc) (.slice qd qm qe) q _ (Ty.at_more Hq.out mC) Wq.out).mono ?_); rintro e w2 ⟨rfl, hb2⟩; have HX2 : More ((w.alloc (.cells #[.bool p.1.1, .slice pa pn pc, .slice pd pm pe] 32)).alloc (.cells #[.bool q.1.1, .slice qa qn qc, .slice qd qm qe] 32)) w2 := mC; have HB2 := HB _ HX2; have hz2 := More.size HX2; (try simp at hz2); have hb2 := hb2; rw [Kq.out]))
  skip
  go_ret
  exact ⟨ret_bool (by first | (simp [Kp.out, Kq.out]; done) | (simp [Kp.out, Kq.out] <;> omega)), mC⟩
theorem and_parts {a b : Bool} (h : (a && b) = true) : a = true ∧ b = true := by rw [Bool.and_eq_true] at h; exact h
set_option maxRecDepth 4000 in
set_option maxHeartbeats 6400000 in
theorem impl_SpansX (ax ay bx bY ar : Int) (lw : Bool) (cs1 : List Value) (p : QR) (cs2 : List Value) (q : QR) (w : World) (ia : In64 ax ∧ In64 ay) (ib : In64 bx ∧ In64 bY) (hv1 : tRat.at w cs1 p) (hw1 : wRat p ≤ 1048576) (hv2 : tRat.at w cs2 q) (hw2 : wRat q ≤ 1048576) :
    Calls Try.prog 12 #[.agg #[.int .i64 ax, .int .i64 ay, .int .i64 bx, .int .i64 bY, .int .i64 ar, .bool lw], .agg cs1.toArray, .agg cs2.toArray] w fun e w' => e = .returned (.bool (spanB ((ax, ay), (bx, bY), ar, lw) p q)) ∧ More w w' := by
  have HIA := Lib.hid ia; have HIB := Lib.hid ib; have HIax := Lib.hid ia.1; have HIbx := Lib.hid ib.1; clear ia ib
  obtain ⟨pa, pn, pc, pd, pm, pe, rfl⟩ := sh_Rat hv1
  have Hp := Lib.hid hv1; have Wp := Lib.hid hw1
  have HV1 : Hid (tRat.at w [.bool p.1.1, .slice pa pn pc, .slice pd pm pe] p) := Lib.hid hv1; have HW1 := Lib.hid hw1; clear hv1 hw1
  obtain ⟨qa, qn, qc, qd, qm, qe, rfl⟩ := sh_Rat hv2
  have Hq := Lib.hid hv2; have Wq := Lib.hid hw2
  have HV2 : Hid (tRat.at w [.bool q.1.1, .slice qa qn qc, .slice qd qm qe] q) := Lib.hid hv2; have HW2 := Lib.hid hw2; clear hv2 hw2
  show Calls Try.prog 12 #[.agg #[.int .i64 ax, .int .i64 ay, .int .i64 bx, .int .i64 bY, .int .i64 ar, .bool lw], .agg #[.bool p.1.1, .slice pa pn pc, .slice pd pm pe], .agg #[.bool q.1.1, .slice qa qn qc, .slice qd qm qe]] w _
  have EE : Hid (spanB ((ax, ay), (bx, bY), ar, lw) p q = (edgeOk ((ax, ay), (bx, bY), ar, lw) && ((ratOkB p && ratOkB q) && spansB ax bx p q))) := Lib.hid (by unfold spanB; simp only [Bool.and_assoc])
  rw [EE.out]
  rcases Bool.eq_false_or_eq_true (edgeOk ((ax, ay), (bx, bY), ar, lw)) with KEk | KEk
  rotate_left
  · have KE := Lib.hid KEk; clear KEk
    have HX : More (((w.alloc (.cells #[.int .i64 ax, .int .i64 ay, .int .i64 bx, .int .i64 bY, .int .i64 ar, .bool lw] 26)).alloc (.cells #[.bool p.1.1, .slice pa pn pc, .slice pd pm pe] 32)).alloc (.cells #[.bool q.1.1, .slice qa qn qc, .slice qd qm qe] 32)) (((w.alloc (.cells #[.int .i64 ax, .int .i64 ay, .int .i64 bx, .int .i64 bY, .int .i64 ar, .bool lw] 26)).alloc (.cells #[.bool p.1.1, .slice pa pn pc, .slice pd pm pe] 32)).alloc (.cells #[.bool q.1.1, .slice qa qn qc, .slice qd qm qe] 32)) := More.refl _
    have HB : ∀ w', More (((w.alloc (.cells #[.int .i64 ax, .int .i64 ay, .int .i64 bx, .int .i64 bY, .int .i64 ar, .bool lw] 26)).alloc (.cells #[.bool p.1.1, .slice pa pn pc, .slice pd pm pe] 32)).alloc (.cells #[.bool q.1.1, .slice qa qn qc, .slice qd qm qe] 32)) w' → w'.cell? ⟨w.heap.size, 0, none⟩ = some (.int .i64 ax) ∧ w'.cell? ⟨w.heap.size, 1, none⟩ = some (.int .i64 ay) ∧ w'.cell? ⟨w.heap.size, 2, none⟩ = some (.int .i64 bx) ∧ w'.cell? ⟨w.heap.size, 3, none⟩ = some (.int .i64 bY) ∧ w'.cell? ⟨w.heap.size, 4, none⟩ = some (.int .i64 ar) ∧ w'.cell? ⟨w.heap.size, 5, none⟩ = some (.bool lw) ∧ (∀ j, w'.frozen? ⟨w.heap.size, j, none⟩ = false) ∧ w'.cell? ⟨w.heap.size + 1, 0, none⟩ = some (.bool p.1.1) ∧ w'.cell? ⟨w.heap.size + 1, 1, none⟩ = some (.slice pa pn pc) ∧ w'.cell? ⟨w.heap.size + 1, 2, none⟩ = some (.slice pd pm pe) ∧ (∀ j, w'.frozen? ⟨w.heap.size + 1, j, none⟩ = false) ∧ w'.cell? ⟨w.heap.size + 1 + 1, 0, none⟩ = some (.bool q.1.1) ∧ w'.cell? ⟨w.heap.size + 1 + 1, 1, none⟩ = some (.slice qa qn qc) ∧ w'.cell? ⟨w.heap.size + 1 + 1, 2, none⟩ = some (.slice qd qm qe) ∧ (∀ j, w'.frozen? ⟨w.heap.size + 1 + 1, j, none⟩ = false) := fun w' h => ⟨box_new (by simp) (More.un (More.un h)) 0, box_new (by simp) (More.un (More.un h)) 1, box_new (by simp) (More.un (More.un h)) 2, box_new (by simp) (More.un (More.un h)) 3, box_new (by simp) (More.un (More.un h)) 4, box_new (by simp) (More.un (More.un h)) 5, fun j => box_free (by simp) (More.un (More.un h)) j, box_new (by simp) (More.un h) 0, box_new (by simp) (More.un h) 1, box_new (by simp) (More.un h) 2, fun j => box_free (by simp) (More.un h) j, box_new (by simp) h 0, box_new (by simp) h 1, box_new (by simp) h 2, fun j => box_free (by simp) h j⟩
    have HC := fun (w' : World) (h : Turns [] (((w.alloc (.cells #[.int .i64 ax, .int .i64 ay, .int .i64 bx, .int .i64 bY, .int .i64 ar, .bool lw] 26)).alloc (.cells #[.bool p.1.1, .slice pa pn pc, .slice pd pm pe] 32)).alloc (.cells #[.bool q.1.1, .slice qa qn qc, .slice qd qm qe] 32)) w') => HB w' (Turns.more h)
    go_enter Try.func12, Try.ntmps12
    go_wp2_with (first | (go_at_call 11; (with_reducible refine (impl_IsValidEdge ax ay bx bY ar lw _ HIA.out HIB.out).mono ?_); rintro e w1 ⟨rfl, hb1⟩; have HX1 : More (((w.alloc (.cells #[.int .i64 ax, .int .i64 ay, .int .i64 bx, .int .i64 bY, .int .i64 ar, .bool lw] 26)).alloc (.cells #[.bool p.1.1, .slice pa pn pc, .slice pd pm pe] 32)).alloc (.cells #[.bool q.1.1, .slice qa qn qc, .slice qd qm qe] 32)) w1 := mC; have HB1 := HB _ HX1; have hz1 := More.size HX1; (try simp at hz1); have hb1 := hb1; rw [KE.out]))
    skip
    go_ret
    exact ⟨ret_bool (by simp [KE.out]), mC⟩
  have KE := Lib.hid KEk; clear KEk
  rcases Bool.eq_false_or_eq_true (ratOkB p && ratOkB q) with KRk | KRk
  rotate_left
  · have KR := Lib.hid KRk; clear KRk
    have HX : More (((w.alloc (.cells #[.int .i64 ax, .int .i64 ay, .int .i64 bx, .int .i64 bY, .int .i64 ar, .bool lw] 26)).alloc (.cells #[.bool p.1.1, .slice pa pn pc, .slice pd pm pe] 32)).alloc (.cells #[.bool q.1.1, .slice qa qn qc, .slice qd qm qe] 32)) (((w.alloc (.cells #[.int .i64 ax, .int .i64 ay, .int .i64 bx, .int .i64 bY, .int .i64 ar, .bool lw] 26)).alloc (.cells #[.bool p.1.1, .slice pa pn pc, .slice pd pm pe] 32)).alloc (.cells #[.bool q.1.1, .slice qa qn qc, .slice qd qm qe] 32)) := More.refl _
    have HB : ∀ w', More (((w.alloc (.cells #[.int .i64 ax, .int .i64 ay, .int .i64 bx, .int .i64 bY, .int .i64 ar, .bool lw] 26)).alloc (.cells #[.bool p.1.1, .slice pa pn pc, .slice pd pm pe] 32)).alloc (.cells #[.bool q.1.1, .slice qa qn qc, .slice qd qm qe] 32)) w' → w'.cell? ⟨w.heap.size, 0, none⟩ = some (.int .i64 ax) ∧ w'.cell? ⟨w.heap.size, 1, none⟩ = some (.int .i64 ay) ∧ w'.cell? ⟨w.heap.size, 2, none⟩ = some (.int .i64 bx) ∧ w'.cell? ⟨w.heap.size, 3, none⟩ = some (.int .i64 bY) ∧ w'.cell? ⟨w.heap.size, 4, none⟩ = some (.int .i64 ar) ∧ w'.cell? ⟨w.heap.size, 5, none⟩ = some (.bool lw) ∧ (∀ j, w'.frozen? ⟨w.heap.size, j, none⟩ = false) ∧ w'.cell? ⟨w.heap.size + 1, 0, none⟩ = some (.bool p.1.1) ∧ w'.cell? ⟨w.heap.size + 1, 1, none⟩ = some (.slice pa pn pc) ∧ w'.cell? ⟨w.heap.size + 1, 2, none⟩ = some (.slice pd pm pe) ∧ (∀ j, w'.frozen? ⟨w.heap.size + 1, j, none⟩ = false) ∧ w'.cell? ⟨w.heap.size + 1 + 1, 0, none⟩ = some (.bool q.1.1) ∧ w'.cell? ⟨w.heap.size + 1 + 1, 1, none⟩ = some (.slice qa qn qc) ∧ w'.cell? ⟨w.heap.size + 1 + 1, 2, none⟩ = some (.slice qd qm qe) ∧ (∀ j, w'.frozen? ⟨w.heap.size + 1 + 1, j, none⟩ = false) := fun w' h => ⟨box_new (by simp) (More.un (More.un h)) 0, box_new (by simp) (More.un (More.un h)) 1, box_new (by simp) (More.un (More.un h)) 2, box_new (by simp) (More.un (More.un h)) 3, box_new (by simp) (More.un (More.un h)) 4, box_new (by simp) (More.un (More.un h)) 5, fun j => box_free (by simp) (More.un (More.un h)) j, box_new (by simp) (More.un h) 0, box_new (by simp) (More.un h) 1, box_new (by simp) (More.un h) 2, fun j => box_free (by simp) (More.un h) j, box_new (by simp) h 0, box_new (by simp) h 1, box_new (by simp) h 2, fun j => box_free (by simp) h j⟩
    have HC := fun (w' : World) (h : Turns [] (((w.alloc (.cells #[.int .i64 ax, .int .i64 ay, .int .i64 bx, .int .i64 bY, .int .i64 ar, .bool lw] 26)).alloc (.cells #[.bool p.1.1, .slice pa pn pc, .slice pd pm pe] 32)).alloc (.cells #[.bool q.1.1, .slice qa qn qc, .slice qd qm qe] 32)) w') => HB w' (Turns.more h)
    go_enter Try.func12, Try.ntmps12
    go_wp2_with (first | (go_at_call 11; (with_reducible refine (impl_IsValidEdge ax ay bx bY ar lw _ HIA.out HIB.out).mono ?_); rintro e w1 ⟨rfl, hb1⟩; have HX1 : More (((w.alloc (.cells #[.int .i64 ax, .int .i64 ay, .int .i64 bx, .int .i64 bY, .int .i64 ar, .bool lw] 26)).alloc (.cells #[.bool p.1.1, .slice pa pn pc, .slice pd pm pe] 32)).alloc (.cells #[.bool q.1.1, .slice qa qn qc, .slice qd qm qe] 32)) w1 := mC; have HB1 := HB _ HX1; have hz1 := More.size HX1; (try simp at hz1); have hb1 := hb1; rw [KE.out]) | (go_at_call 34; (with_reducible refine (impl_areRats [.bool p.1.1, .slice pa pn pc, .slice pd pm pe] p [.bool q.1.1, .slice qa qn qc, .slice qd qm qe] q _ (Ty.at_more Hp.out mC) Wp.out (Ty.at_more Hq.out mC) Wq.out).mono ?_); rintro e w2 ⟨rfl, hb2⟩; have HX2 : More (((w.alloc (.cells #[.int .i64 ax, .int .i64 ay, .int .i64 bx, .int .i64 bY, .int .i64 ar, .bool lw] 26)).alloc (.cells #[.bool p.1.1, .slice pa pn pc, .slice pd pm pe] 32)).alloc (.cells #[.bool q.1.1, .slice qa qn qc, .slice qd qm qe] 32)) w2 := mC; have HB2 := HB _ HX2; have hz2 := More.size HX2; (try simp at hz2); have hb2 := hb2; rw [KR.out]))
    skip
    go_ret
    exact ⟨ret_bool (by simp [KE.out, KR.out]), mC⟩
  have KR := Lib.hid KRk; clear KRk
  rcases Bool.eq_false_or_eq_true (spansB ax bx p q) with KSk | KSk
  rotate_left
  · have KS := Lib.hid KSk; clear KSk
    have HX : More (((w.alloc (.cells #[.int .i64 ax, .int .i64 ay, .int .i64 bx, .int .i64 bY, .int .i64 ar, .bool lw] 26)).alloc (.cells #[.bool p.1.1, .slice pa pn pc, .slice pd pm pe] 32)).alloc (.cells #[.bool q.1.1, .slice qa qn qc, .slice qd qm qe] 32)) (((w.alloc (.cells #[.int .i64 ax, .int .i64 ay, .int .i64 bx, .int .i64 bY, .int .i64 ar, .bool lw] 26)).alloc (.cells #[.bool p.1.1, .slice pa pn pc, .slice pd pm pe] 32)).alloc (.cells #[.bool q.1.1, .slice qa qn qc, .slice qd qm qe] 32)) := More.refl _
    have HB : ∀ w', More (((w.alloc (.cells #[.int .i64 ax, .int .i64 ay, .int .i64 bx, .int .i64 bY, .int .i64 ar, .bool lw] 26)).alloc (.cells #[.bool p.1.1, .slice pa pn pc, .slice pd pm pe] 32)).alloc (.cells #[.bool q.1.1, .slice qa qn qc, .slice qd qm qe] 32)) w' → w'.cell? ⟨w.heap.size, 0, none⟩ = some (.int .i64 ax) ∧ w'.cell? ⟨w.heap.size, 1, none⟩ = some (.int .i64 ay) ∧ w'.cell? ⟨w.heap.size, 2, none⟩ = some (.int .i64 bx) ∧ w'.cell? ⟨w.heap.size, 3, none⟩ = some (.int .i64 bY) ∧ w'.cell? ⟨w.heap.size, 4, none⟩ = some (.int .i64 ar) ∧ w'.cell? ⟨w.heap.size, 5, none⟩ = some (.bool lw) ∧ (∀ j, w'.frozen? ⟨w.heap.size, j, none⟩ = false) ∧ w'.cell? ⟨w.heap.size + 1, 0, none⟩ = some (.bool p.1.1) ∧ w'.cell? ⟨w.heap.size + 1, 1, none⟩ = some (.slice pa pn pc) ∧ w'.cell? ⟨w.heap.size + 1, 2, none⟩ = some (.slice pd pm pe) ∧ (∀ j, w'.frozen? ⟨w.heap.size + 1, j, none⟩ = false) ∧ w'.cell? ⟨w.heap.size + 1 + 1, 0, none⟩ = some (.bool q.1.1) ∧ w'.cell? ⟨w.heap.size + 1 + 1, 1, none⟩ = some (.slice qa qn qc) ∧ w'.cell? ⟨w.heap.size + 1 + 1, 2, none⟩ = some (.slice qd qm qe) ∧ (∀ j, w'.frozen? ⟨w.heap.size + 1 + 1, j, none⟩ = false) := fun w' h => ⟨box_new (by simp) (More.un (More.un h)) 0, box_new (by simp) (More.un (More.un h)) 1, box_new (by simp) (More.un (More.un h)) 2, box_new (by simp) (More.un (More.un h)) 3, box_new (by simp) (More.un (More.un h)) 4, box_new (by simp) (More.un (More.un h)) 5, fun j => box_free (by simp) (More.un (More.un h)) j, box_new (by simp) (More.un h) 0, box_new (by simp) (More.un h) 1, box_new (by simp) (More.un h) 2, fun j => box_free (by simp) (More.un h) j, box_new (by simp) h 0, box_new (by simp) h 1, box_new (by simp) h 2, fun j => box_free (by simp) h j⟩
    have HC := fun (w' : World) (h : Turns [] (((w.alloc (.cells #[.int .i64 ax, .int .i64 ay, .int .i64 bx, .int .i64 bY, .int .i64 ar, .bool lw] 26)).alloc (.cells #[.bool p.1.1, .slice pa pn pc, .slice pd pm pe] 32)).alloc (.cells #[.bool q.1.1, .slice qa qn qc, .slice qd qm qe] 32)) w') => HB w' (Turns.more h)
    go_enter Try.func12, Try.ntmps12
    go_wp2_with (first | (go_at_call 11; (with_reducible refine (impl_IsValidEdge ax ay bx bY ar lw _ HIA.out HIB.out).mono ?_); rintro e w1 ⟨rfl, hb1⟩; have HX1 : More (((w.alloc (.cells #[.int .i64 ax, .int .i64 ay, .int .i64 bx, .int .i64 bY, .int .i64 ar, .bool lw] 26)).alloc (.cells #[.bool p.1.1, .slice pa pn pc, .slice pd pm pe] 32)).alloc (.cells #[.bool q.1.1, .slice qa qn qc, .slice qd qm qe] 32)) w1 := mC; have HB1 := HB _ HX1; have hz1 := More.size HX1; (try simp at hz1); have hb1 := hb1; rw [KE.out]) | (go_at_call 34; (with_reducible refine (impl_areRats [.bool p.1.1, .slice pa pn pc, .slice pd pm pe] p [.bool q.1.1, .slice qa qn qc, .slice qd qm qe] q _ (Ty.at_more Hp.out mC) Wp.out (Ty.at_more Hq.out mC) Wq.out).mono ?_); rintro e w2 ⟨rfl, hb2⟩; have HX2 : More (((w.alloc (.cells #[.int .i64 ax, .int .i64 ay, .int .i64 bx, .int .i64 bY, .int .i64 ar, .bool lw] 26)).alloc (.cells #[.bool p.1.1, .slice pa pn pc, .slice pd pm pe] 32)).alloc (.cells #[.bool q.1.1, .slice qa qn qc, .slice qd qm qe] 32)) w2 := mC; have HB2 := HB _ HX2; have hz2 := More.size HX2; (try simp at hz2); have hb2 := hb2; rw [KR.out]) | (go_at_call 28; (with_reducible refine (impl_spans ax ay bx bY ar lw [.bool p.1.1, .slice pa pn pc, .slice pd pm pe] p [.bool q.1.1, .slice qa qn qc, .slice qd qm qe] q _ HIA.out HIB.out (Ty.at_more Hp.out mC) Wp.out (Ty.at_more Hq.out mC) Wq.out (and_parts KR.out).1 (and_parts KR.out).2).mono ?_); rintro e w3 ⟨rfl, hb3⟩; have HX3 : More (((w.alloc (.cells #[.int .i64 ax, .int .i64 ay, .int .i64 bx, .int .i64 bY, .int .i64 ar, .bool lw] 26)).alloc (.cells #[.bool p.1.1, .slice pa pn pc, .slice pd pm pe] 32)).alloc (.cells #[.bool q.1.1, .slice qa qn qc, .slice qd qm qe] 32)) w3 := mC; have HB3 := HB _ HX3; have hz3 := More.size HX3; (try simp at hz3); have hb3 := hb3; rw [KS.out]))
    skip
    go_ret
    exact ⟨ret_bool (by simp [KE.out, KR.out, KS.out]), mC⟩
  have KS := Lib.hid KSk; clear KSk
  have HX : More (((w.alloc (.cells #[.int .i64 ax, .int .i64 ay, .int .i64 bx, .int .i64 bY, .int .i64 ar, .bool lw] 26)).alloc (.cells #[.bool p.1.1, .slice pa pn pc, .slice pd pm pe] 32)).alloc (.cells #[.bool q.1.1, .slice qa qn qc, .slice qd qm qe] 32)) (((w.alloc (.cells #[.int .i64 ax, .int .i64 ay, .int .i64 bx, .int .i64 bY, .int .i64 ar, .bool lw] 26)).alloc (.cells #[.bool p.1.1, .slice pa pn pc, .slice pd pm pe] 32)).alloc (.cells #[.bool q.1.1, .slice qa qn qc, .slice qd qm qe] 32)) := More.refl _
  have HB : ∀ w', More (((w.alloc (.cells #[.int .i64 ax, .int .i64 ay, .int .i64 bx, .int .i64 bY, .int .i64 ar, .bool lw] 26)).alloc (.cells #[.bool p.1.1, .slice pa pn pc, .slice pd pm pe] 32)).alloc (.cells #[.bool q.1.1, .slice qa qn qc, .slice qd qm qe] 32)) w' → w'.cell? ⟨w.heap.size, 0, none⟩ = some (.int .i64 ax) ∧ w'.cell? ⟨w.heap.size, 1, none⟩ = some (.int .i64 ay) ∧ w'.cell? ⟨w.heap.size, 2, none⟩ = some (.int .i64 bx) ∧ w'.cell? ⟨w.heap.size, 3, none⟩ = some (.int .i64 bY) ∧ w'.cell? ⟨w.heap.size, 4, none⟩ = some (.int .i64 ar) ∧ w'.cell? ⟨w.heap.size, 5, none⟩ = some (.bool lw) ∧ (∀ j, w'.frozen? ⟨w.heap.size, j, none⟩ = false) ∧ w'.cell? ⟨w.heap.size + 1, 0, none⟩ = some (.bool p.1.1) ∧ w'.cell? ⟨w.heap.size + 1, 1, none⟩ = some (.slice pa pn pc) ∧ w'.cell? ⟨w.heap.size + 1, 2, none⟩ = some (.slice pd pm pe) ∧ (∀ j, w'.frozen? ⟨w.heap.size + 1, j, none⟩ = false) ∧ w'.cell? ⟨w.heap.size + 1 + 1, 0, none⟩ = some (.bool q.1.1) ∧ w'.cell? ⟨w.heap.size + 1 + 1, 1, none⟩ = some (.slice qa qn qc) ∧ w'.cell? ⟨w.heap.size + 1 + 1, 2, none⟩ = some (.slice qd qm qe) ∧ (∀ j, w'.frozen? ⟨w.heap.size + 1 + 1, j, none⟩ = false) := fun w' h => ⟨box_new (by simp) (More.un (More.un h)) 0, box_new (by simp) (More.un (More.un h)) 1, box_new (by simp) (More.un (More.un h)) 2, box_new (by simp) (More.un (More.un h)) 3, box_new (by simp) (More.un (More.un h)) 4, box_new (by simp) (More.un (More.un h)) 5, fun j => box_free (by simp) (More.un (More.un h)) j, box_new (by simp) (More.un h) 0, box_new (by simp) (More.un h) 1, box_new (by simp) (More.un h) 2, fun j => box_free (by simp) (More.un h) j, box_new (by simp) h 0, box_new (by simp) h 1, box_new (by simp) h 2, fun j => box_free (by simp) h j⟩
  have HC := fun (w' : World) (h : Turns [] (((w.alloc (.cells #[.int .i64 ax, .int .i64 ay, .int .i64 bx, .int .i64 bY, .int .i64 ar, .bool lw] 26)).alloc (.cells #[.bool p.1.1, .slice pa pn pc, .slice pd pm pe] 32)).alloc (.cells #[.bool q.1.1, .slice qa qn qc, .slice qd qm qe] 32)) w') => HB w' (Turns.more h)
  go_enter Try.func12, Try.ntmps12
  go_wp2_with (first | (go_at_call 11; (with_reducible refine (impl_IsValidEdge ax ay bx bY ar lw _ HIA.out HIB.out).mono ?_); rintro e w1 ⟨rfl, hb1⟩; have HX1 : More (((w.alloc (.cells #[.int .i64 ax, .int .i64 ay, .int .i64 bx, .int .i64 bY, .int .i64 ar, .bool lw] 26)).alloc (.cells #[.bool p.1.1, .slice pa pn pc, .slice pd pm pe] 32)).alloc (.cells #[.bool q.1.1, .slice qa qn qc, .slice qd qm qe] 32)) w1 := mC; have HB1 := HB _ HX1; have hz1 := More.size HX1; (try simp at hz1); have hb1 := hb1; rw [KE.out]) | (go_at_call 34; (with_reducible refine (impl_areRats [.bool p.1.1, .slice pa pn pc, .slice pd pm pe] p [.bool q.1.1, .slice qa qn qc, .slice qd qm qe] q _ (Ty.at_more Hp.out mC) Wp.out (Ty.at_more Hq.out mC) Wq.out).mono ?_); rintro e w2 ⟨rfl, hb2⟩; have HX2 : More (((w.alloc (.cells #[.int .i64 ax, .int .i64 ay, .int .i64 bx, .int .i64 bY, .int .i64 ar, .bool lw] 26)).alloc (.cells #[.bool p.1.1, .slice pa pn pc, .slice pd pm pe] 32)).alloc (.cells #[.bool q.1.1, .slice qa qn qc, .slice qd qm qe] 32)) w2 := mC; have HB2 := HB _ HX2; have hz2 := More.size HX2; (try simp at hz2); have hb2 := hb2; rw [KR.out]) | (go_at_call 28; (with_reducible refine (impl_spans ax ay bx bY ar lw [.bool p.1.1, .slice pa pn pc, .slice pd pm pe] p [.bool q.1.1, .slice qa qn qc, .slice qd qm qe] q _ HIA.out HIB.out (Ty.at_more Hp.out mC) Wp.out (Ty.at_more Hq.out mC) Wq.out (and_parts KR.out).1 (and_parts KR.out).2).mono ?_); rintro e w3 ⟨rfl, hb3⟩; have HX3 : More (((w.alloc (.cells #[.int .i64 ax, .int .i64 ay, .int .i64 bx, .int .i64 bY, .int .i64 ar, .bool lw] 26)).alloc (.cells #[.bool p.1.1, .slice pa pn pc, .slice pd pm pe] 32)).alloc (.cells #[.bool q.1.1, .slice qa qn qc, .slice qd qm qe] 32)) w3 := mC; have HB3 := HB _ HX3; have hz3 := More.size HX3; (try simp at hz3); have hb3 := hb3; rw [KS.out]))
  skip
  go_ret
  exact ⟨ret_bool (by first | (simp [KE.out, KR.out, KS.out]; done) | (simp [KE.out, KR.out, KS.out] <;> omega)), mC⟩
end Go.Proofs.Ytiapendgjapgmaa
