/- InBox. -/
import Derived.Test.YtkhcblheekfdmaaInt
import Derived.Test.YtkhcblheekfdmaaMan
import Derived.Test.YtkhcblheekfdmaaPnt
namespace Go.Proofs.Ytkhcblheekfdmaa
open Go.RowKit
abbrev QB := QV × QV
theorem box_in {w : World} {cs : List Value} {x : QB} (h : (tProd tVec tVec).at w cs x) : (In64 x.1.1 ∧ In64 x.1.2) ∧ (In64 x.2.1 ∧ In64 x.2.2) := by
  obtain ⟨h1, h2, h3⟩ := flat_at (fProd fVec fVec) h
  exact ⟨h2, h3⟩
noncomputable def inBoxB (b : QB) (y : QP) : Bool := decide (0 < rCmp y.1 (encR (frInt b.1.1))) && (decide (rCmp y.1 (encR (frInt b.2.1)) < 0) && (decide (0 < rCmp y.2 (encR (frInt b.1.2))) && decide (rCmp y.2 (encR (frInt b.2.2)) < 0)))
theorem rCmp_bad {x y : QR} (h : ratOkB x = false) : rCmp x y = 0 := by
  unfold rCmp frCmp
  rw [frOf_bad h, if_pos (.inl rfl)]
theorem rCmp_bad2 {x y : QR} (h : ratOkB y = false) : rCmp x y = 0 := by
  unfold rCmp frCmp
  rw [frOf_bad h, if_pos (.inr rfl)]
theorem inBox_ok {b : QB} {y : QP} (h : inBoxB b y = true) : pointB y = true := by
  unfold inBoxB at h
  simp only [Bool.and_eq_true, decide_eq_true_eq] at h
  unfold pointB
  rcases Bool.eq_false_or_eq_true (ratOkB y.1) with h1 | h1
  · rcases Bool.eq_false_or_eq_true (ratOkB y.2) with h2 | h2
    · rw [h1, h2]; rfl
    · have := rCmp_bad (y := encR (frInt b.1.2)) h2; omega
  · have := rCmp_bad (y := encR (frInt b.1.1)) h1; omega
theorem inBox_and (b : QB) (y : QP) : (pointB y && inBoxB b y) = inBoxB b y := by
  rcases Bool.eq_false_or_eq_true (inBoxB b y) with h | h
  · rw [h, inBox_ok h]; rfl
  · rw [h, Bool.and_false]
set_option maxRecDepth 8000 in
set_option maxHeartbeats 12800000 in
theorem impl_inBox (lx ly hx hy : Int) (cs1 : List Value) (s t : QR) (w : World) (i1 : In64 lx) (i2 : In64 ly) (i3 : In64 hx) (i4 : In64 hy) (hv1 : tPoint.at w cs1 (s, t)) (hw1 : wPoint (s, t) ≤ 1048576) (ks : ratOkB s = true) (kt : ratOkB t = true) :
    Calls Try.prog 109 #[.agg #[.int .i64 lx, .int .i64 ly, .int .i64 hx, .int .i64 hy], .agg cs1.toArray] w fun e w' => e = .returned (.bool (inBoxB ((lx, ly), (hx, hy)) (s, t))) ∧ More w w' := by
  have HIlx := Lib.hid i1; have HIly := Lib.hid i2; have HIhx := Lib.hid i3; have HIhy := Lib.hid i4; clear i1 i2 i3 i4
  obtain ⟨k0, d0, rfl, f0, e0⟩ := at_prod hv1
  have f1 := e0; clear e0
  have f0 : tRat.at w _ s := f0
  obtain ⟨sa, sn, sc, sd, sm, se, rfl⟩ := sh_Rat f0
  have Hs := Lib.hid f0; clear f0
  try clear f0
  have Ws : Hid (wRat s ≤ 1048576) := Lib.hid (by have h := hw1; unfold wPoint at h; dsimp only at h; omega)
  have f1 : tRat.at w _ t := f1
  obtain ⟨ta, tn, tc, td, tm, te, rfl⟩ := sh_Rat f1
  have Ht := Lib.hid f1; clear f1
  try clear f1
  have Wt : Hid (wRat t ≤ 1048576) := Lib.hid (by have h := hw1; unfold wPoint at h; dsimp only at h; omega)
  try clear e0 e1
  have HV1 : Hid (tPoint.at w [.bool s.1.1, .slice sa sn sc, .slice sd sm se, .bool t.1.1, .slice ta tn tc, .slice td tm te] (s, t)) := Lib.hid hv1; have HW1 := Lib.hid hw1; clear hv1 hw1
  have Ks := Lib.hid ks; have Kt := Lib.hid kt; clear ks kt
  have KIlx : Hid (ratOkB (encR (frInt lx)) = true) := Lib.hid (ratOk_int HIlx.out); have WIlx : Hid (wRat (encR (frInt lx)) ≤ 1048576) := Lib.hid (wRat_int HIlx.out)
  obtain ⟨s1, zs1⟩ : ∃ b, decide (lx < 0) = b := ⟨_, rfl⟩
  have SIlx := Lib.hid zs1; clear zs1
  have KIhx : Hid (ratOkB (encR (frInt hx)) = true) := Lib.hid (ratOk_int HIhx.out); have WIhx : Hid (wRat (encR (frInt hx)) ≤ 1048576) := Lib.hid (wRat_int HIhx.out)
  obtain ⟨s2, zs2⟩ : ∃ b, decide (hx < 0) = b := ⟨_, rfl⟩
  have SIhx := Lib.hid zs2; clear zs2
  have KIly : Hid (ratOkB (encR (frInt ly)) = true) := Lib.hid (ratOk_int HIly.out); have WIly : Hid (wRat (encR (frInt ly)) ≤ 1048576) := Lib.hid (wRat_int HIly.out)
  obtain ⟨s3, zs3⟩ : ∃ b, decide (ly < 0) = b := ⟨_, rfl⟩
  have SIly := Lib.hid zs3; clear zs3
  have KIhy : Hid (ratOkB (encR (frInt hy)) = true) := Lib.hid (ratOk_int HIhy.out); have WIhy : Hid (wRat (encR (frInt hy)) ≤ 1048576) := Lib.hid (wRat_int HIhy.out)
  obtain ⟨s4, zs4⟩ : ∃ b, decide (hy < 0) = b := ⟨_, rfl⟩
  have SIhy := Lib.hid zs4; clear zs4
  show Calls Try.prog 109 #[.agg #[.int .i64 lx, .int .i64 ly, .int .i64 hx, .int .i64 hy], .agg #[.bool s.1.1, .slice sa sn sc, .slice sd sm se, .bool t.1.1, .slice ta tn tc, .slice td tm te]] w _
  obtain ⟨c0, c0h⟩ : ∃ c, rCmp s (encR (frInt lx)) = c := ⟨_, rfl⟩
  obtain ⟨c0l, c0u⟩ : -1 ≤ c0 ∧ c0 ≤ 1 := by rw [← c0h]; exact rCmp_range _ _
  have C := Lib.hid c0h; clear c0h
  rcases (show 0 < c0 ∨ c0 ≤ 0 by omega) with hC | hC
  rotate_left
  · have hCd : decide (0 < c0) = false := decide_eq_false (by omega)
    have HX : More ((w.alloc (.cells #[.int .i64 lx, .int .i64 ly, .int .i64 hx, .int .i64 hy] 86)).alloc (.cells #[.bool s.1.1, .slice sa sn sc, .slice sd sm se, .bool t.1.1, .slice ta tn tc, .slice td tm te] 89)) ((w.alloc (.cells #[.int .i64 lx, .int .i64 ly, .int .i64 hx, .int .i64 hy] 86)).alloc (.cells #[.bool s.1.1, .slice sa sn sc, .slice sd sm se, .bool t.1.1, .slice ta tn tc, .slice td tm te] 89)) := More.refl _
    have HB : ∀ w', More ((w.alloc (.cells #[.int .i64 lx, .int .i64 ly, .int .i64 hx, .int .i64 hy] 86)).alloc (.cells #[.bool s.1.1, .slice sa sn sc, .slice sd sm se, .bool t.1.1, .slice ta tn tc, .slice td tm te] 89)) w' → w'.cell? ⟨w.heap.size, 0, none⟩ = some (.int .i64 lx) ∧ w'.cell? ⟨w.heap.size, 1, none⟩ = some (.int .i64 ly) ∧ w'.cell? ⟨w.heap.size, 2, none⟩ = some (.int .i64 hx) ∧ w'.cell? ⟨w.heap.size, 3, none⟩ = some (.int .i64 hy) ∧ (∀ j, w'.frozen? ⟨w.heap.size, j, none⟩ = false) ∧ w'.cell? ⟨w.heap.size + 1, 0, none⟩ = some (.bool s.1.1) ∧ w'.cell? ⟨w.heap.size + 1, 1, none⟩ = some (.slice sa sn sc) ∧ w'.cell? ⟨w.heap.size + 1, 2, none⟩ = some (.slice sd sm se) ∧ w'.cell? ⟨w.heap.size + 1, 3, none⟩ = some (.bool t.1.1) ∧ w'.cell? ⟨w.heap.size + 1, 4, none⟩ = some (.slice ta tn tc) ∧ w'.cell? ⟨w.heap.size + 1, 5, none⟩ = some (.slice td tm te) ∧ (∀ j, w'.frozen? ⟨w.heap.size + 1, j, none⟩ = false) := fun w' h => ⟨box_new (by simp) (More.un h) 0, box_new (by simp) (More.un h) 1, box_new (by simp) (More.un h) 2, box_new (by simp) (More.un h) 3, fun j => box_free (by simp) (More.un h) j, box_new (by simp) h 0, box_new (by simp) h 1, box_new (by simp) h 2, box_new (by simp) h 3, box_new (by simp) h 4, box_new (by simp) h 5, fun j => box_free (by simp) h j⟩
    have HC := fun (w' : World) (h : Turns [] ((w.alloc (.cells #[.int .i64 lx, .int .i64 ly, .int .i64 hx, .int .i64 hy] 86)).alloc (.cells #[.bool s.1.1, .slice sa sn sc, .slice sd sm se, .bool t.1.1, .slice ta tn tc, .slice td tm te] 89)) w') => HB w' (Turns.more h)
    go_enter Try.func109, Try.ntmps109
    go_wp2_with fail
    refine wp_region_held_drew (S := (fun w' => Turns [] ((w.alloc (.cells #[.int .i64 lx, .int .i64 ly, .int .i64 hx, .int .i64 hy] 86)).alloc (.cells #[.bool s.1.1, .slice sa sn sc, .slice sd sm se, .bool t.1.1, .slice ta tn tc, .slice td tm te] 89)) w')) (by kernel_rfl) ?_ (fun hHeld => ?_)
    · first | exact (by with_reducible repeat (first | exact Turns.refl _ _ | apply Turns.drew | apply Turns.drewN | apply Turns.alloc | refine Turns.setCell ?_ (by first | (left; simp; done) | (right; simp <;> omega)) _ | refine Turns.via (by assumption) ?_)) | exact (Turns.more (by with_reducible repeat (first | exact Turns.refl _ _ | apply Turns.drew | apply Turns.drewN | apply Turns.alloc | refine Turns.setCellR ?_ (by simp <;> omega) _ | refine Turns.via (by assumption) ?_)))
    refine tk (v := ?_) 0 ⟨some 5, _, _, _, _, _⟩ rfl ?_ ?_
    rotate_left 2
    · (intro w hSw; (try dsimp only at hSw); go_simp; (try with_reducible rfl))
    (try simp only [Act.put, List.setIfInBounds_toArray, List.set_cons_zero, List.set_cons_succ])
    refine tk (v := ?_) 1 ⟨some 6, _, _, _, _, _⟩ rfl ?_ ?_
    rotate_left 2
    · (intro w hSw; (try dsimp only at hSw); go_simp; (try with_reducible rfl))
    (try simp only [Act.put, List.setIfInBounds_toArray, List.set_cons_zero, List.set_cons_succ])
    refine tk (v := ?_) 2 ⟨some 7, _, _, _, _, _⟩ rfl ?_ ?_
    rotate_left 2
    · (intro w hSw; (try dsimp only at hSw); go_simp; (try with_reducible rfl))
    (try simp only [Act.put, List.setIfInBounds_toArray, List.set_cons_zero, List.set_cons_succ])
    refine tk (v := ?_) 3 ⟨some 8, _, _, _, _, _⟩ rfl ?_ ?_
    rotate_left 2
    · (intro w hSw; (try dsimp only at hSw); go_simp; (try with_reducible rfl))
    (try simp only [Act.put, List.setIfInBounds_toArray, List.set_cons_zero, List.set_cons_succ])
    refine tk (v := ?_) 4 ⟨some 9, _, _, _, _, _⟩ rfl ?_ ?_
    rotate_left 2
    · (intro w hSw; (try dsimp only at hSw); go_simp; (try with_reducible rfl))
    (try simp only [Act.put, List.setIfInBounds_toArray, List.set_cons_zero, List.set_cons_succ])
    refine wpAnyH_ready (rs := [5]) (by kernel_rfl) (by simp) ?_
    refine AllReadyH.cons (o := ⟨some 10, _, _, _, _, _⟩) rfl (fun K hK => ?_) AllReadyH.nil
    go_simp
    (go_at_call 86; (with_reducible refine (impl_ratInt lx _ HIlx.out).mono ?_); rintro e w1 ⟨u1, v1, rfl, hb1, g1⟩; rw [SIlx.out]; obtain ⟨r1a, r1n, r1c, r1d, r1m, r1e, rfl, rfl⟩ := g1.sh; have G1 := Lib.hid (int_raw SIlx.out g1); clear g1; have HX1 : More ((w.alloc (.cells #[.int .i64 lx, .int .i64 ly, .int .i64 hx, .int .i64 hy] 86)).alloc (.cells #[.bool s.1.1, .slice sa sn sc, .slice sd sm se, .bool t.1.1, .slice ta tn tc, .slice td tm te] 89)) w1 := (Turns.more (by with_reducible repeat (first | exact Turns.refl _ _ | apply Turns.drew | apply Turns.drewN | apply Turns.alloc | refine Turns.via (by assumption) ?_))); have HB1 := HB _ HX1; have hz1 := More.size HX1; (try simp at hz1); have hb1 := hb1)
    refine hK.out _ _ ?_ (fun hHeld => ?_)
    · first | exact (by with_reducible repeat (first | exact Turns.refl _ _ | apply Turns.drew | apply Turns.drewN | apply Turns.alloc | refine Turns.setCell ?_ (by first | (left; simp; done) | (right; simp <;> omega)) _ | refine Turns.via (by assumption) ?_)) | exact (Turns.more (by with_reducible repeat (first | exact Turns.refl _ _ | apply Turns.drew | apply Turns.drewN | apply Turns.alloc | refine Turns.setCellR ?_ (by simp <;> omega) _ | refine Turns.via (by assumption) ?_)))
    clear hK K
    (try simp only [Act.put, List.setIfInBounds_toArray, List.set_cons_zero, List.set_cons_succ])
    refine wpAnyH_ready (rs := [6]) (by kernel_rfl) (by simp) ?_
    refine AllReadyH.cons (o := ⟨some 11, _, _, _, _, _⟩) rfl (fun K hK => ?_) AllReadyH.nil
    go_simp
    (go_at_call 98; (with_reducible refine (impl_ratCmpX s s.1.1 (.slice sa sn sc) (.slice sd sm se) (encR (frInt lx)) s1 (.slice r1a r1n r1c) (.slice r1d r1m r1e) _ Ks.out KIlx.out (Ty.at_more Hs.out (Turns.more (by with_reducible repeat (first | exact Turns.refl _ _ | apply Turns.drew | apply Turns.drewN | apply Turns.alloc | refine Turns.via (by assumption) ?_)))) (Ty.at_more G1.out (Turns.more (by with_reducible repeat (first | exact Turns.refl _ _ | apply Turns.drew | apply Turns.drewN | apply Turns.alloc | refine Turns.via (by assumption) ?_))))).mono ?_); rintro e w2 ⟨rfl, hb2⟩; rw [C.out]; have HX2 : More ((w.alloc (.cells #[.int .i64 lx, .int .i64 ly, .int .i64 hx, .int .i64 hy] 86)).alloc (.cells #[.bool s.1.1, .slice sa sn sc, .slice sd sm se, .bool t.1.1, .slice ta tn tc, .slice td tm te] 89)) w2 := (Turns.more (by with_reducible repeat (first | exact Turns.refl _ _ | apply Turns.drew | apply Turns.drewN | apply Turns.alloc | refine Turns.via (by assumption) ?_))); have HB2 := HB _ HX2; have hz2 := More.size HX2; (try simp at hz2); have hb2 := hb2)
    refine hK.out _ _ ?_ (fun hHeld => ?_)
    · first | exact (by with_reducible repeat (first | exact Turns.refl _ _ | apply Turns.drew | apply Turns.drewN | apply Turns.alloc | refine Turns.setCell ?_ (by first | (left; simp; done) | (right; simp <;> omega)) _ | refine Turns.via (by assumption) ?_)) | exact (Turns.more (by with_reducible repeat (first | exact Turns.refl _ _ | apply Turns.drew | apply Turns.drewN | apply Turns.alloc | refine Turns.setCellR ?_ (by simp <;> omega) _ | refine Turns.via (by assumption) ?_)))
    clear hK K
    (try simp only [Act.put, List.setIfInBounds_toArray, List.set_cons_zero, List.set_cons_succ])
    refine tk (v := ?_) 7 ⟨some 12, _, _, _, _, _⟩ rfl ?_ ?_
    rotate_left 2
    · (intro w hSw; (try dsimp only at hSw); go_simp; (try with_reducible rfl))
    (try simp only [Act.put, List.setIfInBounds_toArray, List.set_cons_zero, List.set_cons_succ])
    refine tk (v := ?_) 8 ⟨some 13, _, _, _, _, _⟩ rfl ?_ ?_
    rotate_left 2
    · (intro w hSw; (try dsimp only at hSw); go_simp; (try with_reducible rfl))
    (try simp only [Act.put, List.setIfInBounds_toArray, List.set_cons_zero, List.set_cons_succ])
    refine tk0 9 ⟨some 14, _, _, _, _, _⟩ rfl ?_
    (try simp only [Act.put, List.setIfInBounds_toArray, List.set_cons_zero, List.set_cons_succ])
    refine tk0 10 ⟨some 15, _, _, _, _, _⟩ rfl ?_
    (try simp only [Act.put, List.setIfInBounds_toArray, List.set_cons_zero, List.set_cons_succ])
    refine tk0 11 ⟨some 16, _, _, _, _, _⟩ rfl ?_
    (try simp only [Act.put, List.setIfInBounds_toArray, List.set_cons_zero, List.set_cons_succ])
    refine tk0 12 ⟨some 17, _, _, _, _, _⟩ rfl ?_
    (try simp only [Act.put, List.setIfInBounds_toArray, List.set_cons_zero, List.set_cons_succ])
    refine tk0 13 ⟨some 18, _, _, _, _, _⟩ rfl ?_
    (try simp only [Act.put, List.setIfInBounds_toArray, List.set_cons_zero, List.set_cons_succ])
    refine tk0 14 ⟨some 19, _, _, _, _, _⟩ rfl ?_
    (try simp only [Act.put, List.setIfInBounds_toArray, List.set_cons_zero, List.set_cons_succ])
    refine tk0 15 ⟨some 20, _, _, _, _, _⟩ rfl ?_
    (try simp only [Act.put, List.setIfInBounds_toArray, List.set_cons_zero, List.set_cons_succ])
    refine tk0 16 ⟨some 21, _, _, _, _, _⟩ rfl ?_
    (try simp only [Act.put, List.setIfInBounds_toArray, List.set_cons_zero, List.set_cons_succ])
    refine tk (v := ?_) 17 ⟨some 22, _, _, _, _, _⟩ rfl ?_ ?_
    rotate_left 2
    · (intro w hSw; (try dsimp only at hSw); go_simp; (try with_reducible rfl))
    (try simp only [Act.put, List.setIfInBounds_toArray, List.set_cons_zero, List.set_cons_succ])
    refine tk (v := ?_) 18 ⟨some 23, _, _, _, _, _⟩ rfl ?_ ?_
    rotate_left 2
    · (intro w hSw; (try dsimp only at hSw); go_simp; (try with_reducible rfl))
    (try simp only [Act.put, List.setIfInBounds_toArray, List.set_cons_zero, List.set_cons_succ])
    refine tk0 19 ⟨some 24, _, _, _, _, _⟩ rfl ?_
    (try simp only [Act.put, List.setIfInBounds_toArray, List.set_cons_zero, List.set_cons_succ])
    refine tk0 20 ⟨some 25, _, _, _, _, _⟩ rfl ?_
    (try simp only [Act.put, List.setIfInBounds_toArray, List.set_cons_zero, List.set_cons_succ])
    refine tk0 21 ⟨some 26, _, _, _, _, _⟩ rfl ?_
    (try simp only [Act.put, List.setIfInBounds_toArray, List.set_cons_zero, List.set_cons_succ])
    refine tk0 22 ⟨some 27, _, _, _, _, _⟩ rfl ?_
    (try simp only [Act.put, List.setIfInBounds_toArray, List.set_cons_zero, List.set_cons_succ])
    refine tk0 23 ⟨some 28, _, _, _, _, _⟩ rfl ?_
    (try simp only [Act.put, List.setIfInBounds_toArray, List.set_cons_zero, List.set_cons_succ])
    refine tk0 24 ⟨some 29, _, _, _, _, _⟩ rfl ?_
    (try simp only [Act.put, List.setIfInBounds_toArray, List.set_cons_zero, List.set_cons_succ])
    refine tk0 25 ⟨some 30, _, _, _, _, _⟩ rfl ?_
    (try simp only [Act.put, List.setIfInBounds_toArray, List.set_cons_zero, List.set_cons_succ])
    refine tk0 26 ⟨some 31, _, _, _, _, _⟩ rfl ?_
    (try simp only [Act.put, List.setIfInBounds_toArray, List.set_cons_zero, List.set_cons_succ])
    refine tk (v := ?_) 27 ⟨some 32, _, _, _, _, _⟩ rfl ?_ ?_
    rotate_left 2
    · (intro w hSw; (try dsimp only at hSw); go_simp; (try with_reducible rfl))
    (try simp only [Act.put, List.setIfInBounds_toArray, List.set_cons_zero, List.set_cons_succ])
    refine tk (v := ?_) 28 ⟨some 33, _, _, _, _, _⟩ rfl ?_ ?_
    rotate_left 2
    · (intro w hSw; (try dsimp only at hSw); go_simp; (try with_reducible rfl))
    (try simp only [Act.put, List.setIfInBounds_toArray, List.set_cons_zero, List.set_cons_succ])
    refine tk0 29 ⟨some 34, _, _, _, _, _⟩ rfl ?_
    (try simp only [Act.put, List.setIfInBounds_toArray, List.set_cons_zero, List.set_cons_succ])
    refine tk0 30 ⟨some 35, _, _, _, _, _⟩ rfl ?_
    (try simp only [Act.put, List.setIfInBounds_toArray, List.set_cons_zero, List.set_cons_succ])
    refine tk0 31 ⟨some 36, _, _, _, _, _⟩ rfl ?_
    (try simp only [Act.put, List.setIfInBounds_toArray, List.set_cons_zero, List.set_cons_succ])
    refine tk0 32 ⟨some 37, _, _, _, _, _⟩ rfl ?_
    (try simp only [Act.put, List.setIfInBounds_toArray, List.set_cons_zero, List.set_cons_succ])
    refine tk0 33 ⟨some 38, _, _, _, _, _⟩ rfl ?_
    (try simp only [Act.put, List.setIfInBounds_toArray, List.set_cons_zero, List.set_cons_succ])
    refine tk0 34 ⟨some 39, _, _, _, _, _⟩ rfl ?_
    (try simp only [Act.put, List.setIfInBounds_toArray, List.set_cons_zero, List.set_cons_succ])
    refine tk0 35 ⟨some 40, _, _, _, _, _⟩ rfl ?_
    (try simp only [Act.put, List.setIfInBounds_toArray, List.set_cons_zero, List.set_cons_succ])
    refine tk0 36 ⟨some 41, _, _, _, _, _⟩ rfl ?_
    (try simp only [Act.put, List.setIfInBounds_toArray, List.set_cons_zero, List.set_cons_succ])
    refine tk (v := ?_) 37 ⟨some 42, _, _, _, _, _⟩ rfl ?_ ?_
    rotate_left 2
    · (intro w hSw; (try dsimp only at hSw); go_simp; (try with_reducible rfl))
    (try simp only [Act.put, List.setIfInBounds_toArray, List.set_cons_zero, List.set_cons_succ])
    refine tk (v := ?_) 38 ⟨some 4, _, _, _, _, _⟩ rfl ?_ ?_
    rotate_left 2
    · (intro w hSw; (try dsimp only at hSw); go_simp; (try with_reducible rfl))
    (try simp only [Act.put, List.setIfInBounds_toArray, List.set_cons_zero, List.set_cons_succ])
    refine wpAnyH_done (by kernel_rfl) ?_ _
    go_wp2_with fail
    go_ret
    exact ⟨ret_bool (by first | (simp [inBoxB, C.out]; done) | (simp [inBoxB, C.out] <;> omega)), (Turns.more (by with_reducible repeat (first | exact Turns.refl _ _ | apply Turns.drew | apply Turns.drewN | apply Turns.alloc | refine Turns.via (by assumption) ?_)))⟩
  have hCd : decide (0 < c0) = true := decide_eq_true (by omega)
  obtain ⟨d0, d0h⟩ : ∃ c, rCmp s (encR (frInt hx)) = c := ⟨_, rfl⟩
  obtain ⟨d0l, d0u⟩ : -1 ≤ d0 ∧ d0 ≤ 1 := by rw [← d0h]; exact rCmp_range _ _
  have D := Lib.hid d0h; clear d0h
  rcases (show d0 < 0 ∨ 0 ≤ d0 by omega) with hD | hD
  rotate_left
  · have hDd : decide (d0 < 0) = false := decide_eq_false (by omega)
    have HX : More ((w.alloc (.cells #[.int .i64 lx, .int .i64 ly, .int .i64 hx, .int .i64 hy] 86)).alloc (.cells #[.bool s.1.1, .slice sa sn sc, .slice sd sm se, .bool t.1.1, .slice ta tn tc, .slice td tm te] 89)) ((w.alloc (.cells #[.int .i64 lx, .int .i64 ly, .int .i64 hx, .int .i64 hy] 86)).alloc (.cells #[.bool s.1.1, .slice sa sn sc, .slice sd sm se, .bool t.1.1, .slice ta tn tc, .slice td tm te] 89)) := More.refl _
    have HB : ∀ w', More ((w.alloc (.cells #[.int .i64 lx, .int .i64 ly, .int .i64 hx, .int .i64 hy] 86)).alloc (.cells #[.bool s.1.1, .slice sa sn sc, .slice sd sm se, .bool t.1.1, .slice ta tn tc, .slice td tm te] 89)) w' → w'.cell? ⟨w.heap.size, 0, none⟩ = some (.int .i64 lx) ∧ w'.cell? ⟨w.heap.size, 1, none⟩ = some (.int .i64 ly) ∧ w'.cell? ⟨w.heap.size, 2, none⟩ = some (.int .i64 hx) ∧ w'.cell? ⟨w.heap.size, 3, none⟩ = some (.int .i64 hy) ∧ (∀ j, w'.frozen? ⟨w.heap.size, j, none⟩ = false) ∧ w'.cell? ⟨w.heap.size + 1, 0, none⟩ = some (.bool s.1.1) ∧ w'.cell? ⟨w.heap.size + 1, 1, none⟩ = some (.slice sa sn sc) ∧ w'.cell? ⟨w.heap.size + 1, 2, none⟩ = some (.slice sd sm se) ∧ w'.cell? ⟨w.heap.size + 1, 3, none⟩ = some (.bool t.1.1) ∧ w'.cell? ⟨w.heap.size + 1, 4, none⟩ = some (.slice ta tn tc) ∧ w'.cell? ⟨w.heap.size + 1, 5, none⟩ = some (.slice td tm te) ∧ (∀ j, w'.frozen? ⟨w.heap.size + 1, j, none⟩ = false) := fun w' h => ⟨box_new (by simp) (More.un h) 0, box_new (by simp) (More.un h) 1, box_new (by simp) (More.un h) 2, box_new (by simp) (More.un h) 3, fun j => box_free (by simp) (More.un h) j, box_new (by simp) h 0, box_new (by simp) h 1, box_new (by simp) h 2, box_new (by simp) h 3, box_new (by simp) h 4, box_new (by simp) h 5, fun j => box_free (by simp) h j⟩
    have HC := fun (w' : World) (h : Turns [] ((w.alloc (.cells #[.int .i64 lx, .int .i64 ly, .int .i64 hx, .int .i64 hy] 86)).alloc (.cells #[.bool s.1.1, .slice sa sn sc, .slice sd sm se, .bool t.1.1, .slice ta tn tc, .slice td tm te] 89)) w') => HB w' (Turns.more h)
    go_enter Try.func109, Try.ntmps109
    go_wp2_with fail
    refine wp_region_held_drew (S := (fun w' => Turns [] ((w.alloc (.cells #[.int .i64 lx, .int .i64 ly, .int .i64 hx, .int .i64 hy] 86)).alloc (.cells #[.bool s.1.1, .slice sa sn sc, .slice sd sm se, .bool t.1.1, .slice ta tn tc, .slice td tm te] 89)) w')) (by kernel_rfl) ?_ (fun hHeld => ?_)
    · first | exact (by with_reducible repeat (first | exact Turns.refl _ _ | apply Turns.drew | apply Turns.drewN | apply Turns.alloc | refine Turns.setCell ?_ (by first | (left; simp; done) | (right; simp <;> omega)) _ | refine Turns.via (by assumption) ?_)) | exact (Turns.more (by with_reducible repeat (first | exact Turns.refl _ _ | apply Turns.drew | apply Turns.drewN | apply Turns.alloc | refine Turns.setCellR ?_ (by simp <;> omega) _ | refine Turns.via (by assumption) ?_)))
    refine tk (v := ?_) 0 ⟨some 5, _, _, _, _, _⟩ rfl ?_ ?_
    rotate_left 2
    · (intro w hSw; (try dsimp only at hSw); go_simp; (try with_reducible rfl))
    (try simp only [Act.put, List.setIfInBounds_toArray, List.set_cons_zero, List.set_cons_succ])
    refine tk (v := ?_) 1 ⟨some 6, _, _, _, _, _⟩ rfl ?_ ?_
    rotate_left 2
    · (intro w hSw; (try dsimp only at hSw); go_simp; (try with_reducible rfl))
    (try simp only [Act.put, List.setIfInBounds_toArray, List.set_cons_zero, List.set_cons_succ])
    refine tk (v := ?_) 2 ⟨some 7, _, _, _, _, _⟩ rfl ?_ ?_
    rotate_left 2
    · (intro w hSw; (try dsimp only at hSw); go_simp; (try with_reducible rfl))
    (try simp only [Act.put, List.setIfInBounds_toArray, List.set_cons_zero, List.set_cons_succ])
    refine tk (v := ?_) 3 ⟨some 8, _, _, _, _, _⟩ rfl ?_ ?_
    rotate_left 2
    · (intro w hSw; (try dsimp only at hSw); go_simp; (try with_reducible rfl))
    (try simp only [Act.put, List.setIfInBounds_toArray, List.set_cons_zero, List.set_cons_succ])
    refine tk (v := ?_) 4 ⟨some 9, _, _, _, _, _⟩ rfl ?_ ?_
    rotate_left 2
    · (intro w hSw; (try dsimp only at hSw); go_simp; (try with_reducible rfl))
    (try simp only [Act.put, List.setIfInBounds_toArray, List.set_cons_zero, List.set_cons_succ])
    refine wpAnyH_ready (rs := [5]) (by kernel_rfl) (by simp) ?_
    refine AllReadyH.cons (o := ⟨some 10, _, _, _, _, _⟩) rfl (fun K hK => ?_) AllReadyH.nil
    go_simp
    (go_at_call 86; (with_reducible refine (impl_ratInt lx _ HIlx.out).mono ?_); rintro e w1 ⟨u1, v1, rfl, hb1, g1⟩; rw [SIlx.out]; obtain ⟨r1a, r1n, r1c, r1d, r1m, r1e, rfl, rfl⟩ := g1.sh; have G1 := Lib.hid (int_raw SIlx.out g1); clear g1; have HX1 : More ((w.alloc (.cells #[.int .i64 lx, .int .i64 ly, .int .i64 hx, .int .i64 hy] 86)).alloc (.cells #[.bool s.1.1, .slice sa sn sc, .slice sd sm se, .bool t.1.1, .slice ta tn tc, .slice td tm te] 89)) w1 := (Turns.more (by with_reducible repeat (first | exact Turns.refl _ _ | apply Turns.drew | apply Turns.drewN | apply Turns.alloc | refine Turns.via (by assumption) ?_))); have HB1 := HB _ HX1; have hz1 := More.size HX1; (try simp at hz1); have hb1 := hb1)
    refine hK.out _ _ ?_ (fun hHeld => ?_)
    · first | exact (by with_reducible repeat (first | exact Turns.refl _ _ | apply Turns.drew | apply Turns.drewN | apply Turns.alloc | refine Turns.setCell ?_ (by first | (left; simp; done) | (right; simp <;> omega)) _ | refine Turns.via (by assumption) ?_)) | exact (Turns.more (by with_reducible repeat (first | exact Turns.refl _ _ | apply Turns.drew | apply Turns.drewN | apply Turns.alloc | refine Turns.setCellR ?_ (by simp <;> omega) _ | refine Turns.via (by assumption) ?_)))
    clear hK K
    (try simp only [Act.put, List.setIfInBounds_toArray, List.set_cons_zero, List.set_cons_succ])
    refine wpAnyH_ready (rs := [6]) (by kernel_rfl) (by simp) ?_
    refine AllReadyH.cons (o := ⟨some 11, _, _, _, _, _⟩) rfl (fun K hK => ?_) AllReadyH.nil
    go_simp
    (go_at_call 98; (with_reducible refine (impl_ratCmpX s s.1.1 (.slice sa sn sc) (.slice sd sm se) (encR (frInt lx)) s1 (.slice r1a r1n r1c) (.slice r1d r1m r1e) _ Ks.out KIlx.out (Ty.at_more Hs.out (Turns.more (by with_reducible repeat (first | exact Turns.refl _ _ | apply Turns.drew | apply Turns.drewN | apply Turns.alloc | refine Turns.via (by assumption) ?_)))) (Ty.at_more G1.out (Turns.more (by with_reducible repeat (first | exact Turns.refl _ _ | apply Turns.drew | apply Turns.drewN | apply Turns.alloc | refine Turns.via (by assumption) ?_))))).mono ?_); rintro e w2 ⟨rfl, hb2⟩; rw [C.out]; have HX2 : More ((w.alloc (.cells #[.int .i64 lx, .int .i64 ly, .int .i64 hx, .int .i64 hy] 86)).alloc (.cells #[.bool s.1.1, .slice sa sn sc, .slice sd sm se, .bool t.1.1, .slice ta tn tc, .slice td tm te] 89)) w2 := (Turns.more (by with_reducible repeat (first | exact Turns.refl _ _ | apply Turns.drew | apply Turns.drewN | apply Turns.alloc | refine Turns.via (by assumption) ?_))); have HB2 := HB _ HX2; have hz2 := More.size HX2; (try simp at hz2); have hb2 := hb2)
    refine hK.out _ _ ?_ (fun hHeld => ?_)
    · first | exact (by with_reducible repeat (first | exact Turns.refl _ _ | apply Turns.drew | apply Turns.drewN | apply Turns.alloc | refine Turns.setCell ?_ (by first | (left; simp; done) | (right; simp <;> omega)) _ | refine Turns.via (by assumption) ?_)) | exact (Turns.more (by with_reducible repeat (first | exact Turns.refl _ _ | apply Turns.drew | apply Turns.drewN | apply Turns.alloc | refine Turns.setCellR ?_ (by simp <;> omega) _ | refine Turns.via (by assumption) ?_)))
    clear hK K
    (try simp only [Act.put, List.setIfInBounds_toArray, List.set_cons_zero, List.set_cons_succ])
    refine tk (v := ?_) 7 ⟨some 12, _, _, _, _, _⟩ rfl ?_ ?_
    rotate_left 2
    · (intro w hSw; (try dsimp only at hSw); go_simp; (try with_reducible rfl))
    (try simp only [Act.put, List.setIfInBounds_toArray, List.set_cons_zero, List.set_cons_succ])
    refine tk (v := ?_) 8 ⟨some 13, _, _, _, _, _⟩ rfl ?_ ?_
    rotate_left 2
    · (intro w hSw; (try dsimp only at hSw); go_simp; (try with_reducible rfl))
    (try simp only [Act.put, List.setIfInBounds_toArray, List.set_cons_zero, List.set_cons_succ])
    refine tk (v := ?_) 9 ⟨some 14, _, _, _, _, _⟩ rfl ?_ ?_
    rotate_left 2
    · (intro w hSw; (try dsimp only at hSw); go_simp; (try with_reducible rfl))
    (try simp only [Act.put, List.setIfInBounds_toArray, List.set_cons_zero, List.set_cons_succ])
    refine tk (v := ?_) 10 ⟨some 15, _, _, _, _, _⟩ rfl ?_ ?_
    rotate_left 2
    · (intro w hSw; (try dsimp only at hSw); go_simp; (try with_reducible rfl))
    (try simp only [Act.put, List.setIfInBounds_toArray, List.set_cons_zero, List.set_cons_succ])
    refine tk (v := ?_) 11 ⟨some 16, _, _, _, _, _⟩ rfl ?_ ?_
    rotate_left 2
    · (intro w hSw; (try dsimp only at hSw); go_simp; (try with_reducible rfl))
    (try simp only [Act.put, List.setIfInBounds_toArray, List.set_cons_zero, List.set_cons_succ])
    refine tk (v := ?_) 12 ⟨some 17, _, _, _, _, _⟩ rfl ?_ ?_
    rotate_left 2
    · (intro w hSw; (try dsimp only at hSw); go_simp; (try with_reducible rfl))
    (try simp only [Act.put, List.setIfInBounds_toArray, List.set_cons_zero, List.set_cons_succ])
    refine tk (v := ?_) 13 ⟨some 18, _, _, _, _, _⟩ rfl ?_ ?_
    rotate_left 2
    · (intro w hSw; (try dsimp only at hSw); go_simp; (try with_reducible rfl))
    (try simp only [Act.put, List.setIfInBounds_toArray, List.set_cons_zero, List.set_cons_succ])
    refine wpAnyH_ready (rs := [14]) (by kernel_rfl) (by simp) ?_
    refine AllReadyH.cons (o := ⟨some 19, _, _, _, _, _⟩) rfl (fun K hK => ?_) AllReadyH.nil
    go_simp
    (go_at_call 86; (with_reducible refine (impl_ratInt hx _ HIhx.out).mono ?_); rintro e w3 ⟨u3, v3, rfl, hb3, g3⟩; rw [SIhx.out]; obtain ⟨r3a, r3n, r3c, r3d, r3m, r3e, rfl, rfl⟩ := g3.sh; have G3 := Lib.hid (int_raw SIhx.out g3); clear g3; have HX3 : More ((w.alloc (.cells #[.int .i64 lx, .int .i64 ly, .int .i64 hx, .int .i64 hy] 86)).alloc (.cells #[.bool s.1.1, .slice sa sn sc, .slice sd sm se, .bool t.1.1, .slice ta tn tc, .slice td tm te] 89)) w3 := (Turns.more (by with_reducible repeat (first | exact Turns.refl _ _ | apply Turns.drew | apply Turns.drewN | apply Turns.alloc | refine Turns.via (by assumption) ?_))); have HB3 := HB _ HX3; have hz3 := More.size HX3; (try simp at hz3); have hb3 := hb3)
    refine hK.out _ _ ?_ (fun hHeld => ?_)
    · first | exact (by with_reducible repeat (first | exact Turns.refl _ _ | apply Turns.drew | apply Turns.drewN | apply Turns.alloc | refine Turns.setCell ?_ (by first | (left; simp; done) | (right; simp <;> omega)) _ | refine Turns.via (by assumption) ?_)) | exact (Turns.more (by with_reducible repeat (first | exact Turns.refl _ _ | apply Turns.drew | apply Turns.drewN | apply Turns.alloc | refine Turns.setCellR ?_ (by simp <;> omega) _ | refine Turns.via (by assumption) ?_)))
    clear hK K
    (try simp only [Act.put, List.setIfInBounds_toArray, List.set_cons_zero, List.set_cons_succ])
    refine wpAnyH_ready (rs := [15]) (by kernel_rfl) (by simp) ?_
    refine AllReadyH.cons (o := ⟨some 20, _, _, _, _, _⟩) rfl (fun K hK => ?_) AllReadyH.nil
    go_simp
    (go_at_call 98; (with_reducible refine (impl_ratCmpX s s.1.1 (.slice sa sn sc) (.slice sd sm se) (encR (frInt hx)) s2 (.slice r3a r3n r3c) (.slice r3d r3m r3e) _ Ks.out KIhx.out (Ty.at_more Hs.out (Turns.more (by with_reducible repeat (first | exact Turns.refl _ _ | apply Turns.drew | apply Turns.drewN | apply Turns.alloc | refine Turns.via (by assumption) ?_)))) (Ty.at_more G3.out (Turns.more (by with_reducible repeat (first | exact Turns.refl _ _ | apply Turns.drew | apply Turns.drewN | apply Turns.alloc | refine Turns.via (by assumption) ?_))))).mono ?_); rintro e w4 ⟨rfl, hb4⟩; rw [D.out]; have HX4 : More ((w.alloc (.cells #[.int .i64 lx, .int .i64 ly, .int .i64 hx, .int .i64 hy] 86)).alloc (.cells #[.bool s.1.1, .slice sa sn sc, .slice sd sm se, .bool t.1.1, .slice ta tn tc, .slice td tm te] 89)) w4 := (Turns.more (by with_reducible repeat (first | exact Turns.refl _ _ | apply Turns.drew | apply Turns.drewN | apply Turns.alloc | refine Turns.via (by assumption) ?_))); have HB4 := HB _ HX4; have hz4 := More.size HX4; (try simp at hz4); have hb4 := hb4)
    refine hK.out _ _ ?_ (fun hHeld => ?_)
    · first | exact (by with_reducible repeat (first | exact Turns.refl _ _ | apply Turns.drew | apply Turns.drewN | apply Turns.alloc | refine Turns.setCell ?_ (by first | (left; simp; done) | (right; simp <;> omega)) _ | refine Turns.via (by assumption) ?_)) | exact (Turns.more (by with_reducible repeat (first | exact Turns.refl _ _ | apply Turns.drew | apply Turns.drewN | apply Turns.alloc | refine Turns.setCellR ?_ (by simp <;> omega) _ | refine Turns.via (by assumption) ?_)))
    clear hK K
    (try simp only [Act.put, List.setIfInBounds_toArray, List.set_cons_zero, List.set_cons_succ])
    refine tk (v := ?_) 16 ⟨some 21, _, _, _, _, _⟩ rfl ?_ ?_
    rotate_left 2
    · (intro w hSw; (try dsimp only at hSw); go_simp; (try with_reducible rfl))
    (try simp only [Act.put, List.setIfInBounds_toArray, List.set_cons_zero, List.set_cons_succ])
    refine tk (v := ?_) 17 ⟨some 22, _, _, _, _, _⟩ rfl ?_ ?_
    rotate_left 2
    · (intro w hSw; (try dsimp only at hSw); go_simp; (try with_reducible rfl))
    (try simp only [Act.put, List.setIfInBounds_toArray, List.set_cons_zero, List.set_cons_succ])
    refine tk (v := ?_) 18 ⟨some 23, _, _, _, _, _⟩ rfl ?_ ?_
    rotate_left 2
    · (intro w hSw; (try dsimp only at hSw); go_simp; (try with_reducible rfl))
    (try simp only [Act.put, List.setIfInBounds_toArray, List.set_cons_zero, List.set_cons_succ])
    refine tk0 19 ⟨some 24, _, _, _, _, _⟩ rfl ?_
    (try simp only [Act.put, List.setIfInBounds_toArray, List.set_cons_zero, List.set_cons_succ])
    refine tk0 20 ⟨some 25, _, _, _, _, _⟩ rfl ?_
    (try simp only [Act.put, List.setIfInBounds_toArray, List.set_cons_zero, List.set_cons_succ])
    refine tk0 21 ⟨some 26, _, _, _, _, _⟩ rfl ?_
    (try simp only [Act.put, List.setIfInBounds_toArray, List.set_cons_zero, List.set_cons_succ])
    refine tk0 22 ⟨some 27, _, _, _, _, _⟩ rfl ?_
    (try simp only [Act.put, List.setIfInBounds_toArray, List.set_cons_zero, List.set_cons_succ])
    refine tk0 23 ⟨some 28, _, _, _, _, _⟩ rfl ?_
    (try simp only [Act.put, List.setIfInBounds_toArray, List.set_cons_zero, List.set_cons_succ])
    refine tk0 24 ⟨some 29, _, _, _, _, _⟩ rfl ?_
    (try simp only [Act.put, List.setIfInBounds_toArray, List.set_cons_zero, List.set_cons_succ])
    refine tk0 25 ⟨some 30, _, _, _, _, _⟩ rfl ?_
    (try simp only [Act.put, List.setIfInBounds_toArray, List.set_cons_zero, List.set_cons_succ])
    refine tk0 26 ⟨some 31, _, _, _, _, _⟩ rfl ?_
    (try simp only [Act.put, List.setIfInBounds_toArray, List.set_cons_zero, List.set_cons_succ])
    refine tk (v := ?_) 27 ⟨some 32, _, _, _, _, _⟩ rfl ?_ ?_
    rotate_left 2
    · (intro w hSw; (try dsimp only at hSw); go_simp; (try with_reducible rfl))
    (try simp only [Act.put, List.setIfInBounds_toArray, List.set_cons_zero, List.set_cons_succ])
    refine tk (v := ?_) 28 ⟨some 33, _, _, _, _, _⟩ rfl ?_ ?_
    rotate_left 2
    · (intro w hSw; (try dsimp only at hSw); go_simp; (try with_reducible rfl))
    (try simp only [Act.put, List.setIfInBounds_toArray, List.set_cons_zero, List.set_cons_succ])
    refine tk0 29 ⟨some 34, _, _, _, _, _⟩ rfl ?_
    (try simp only [Act.put, List.setIfInBounds_toArray, List.set_cons_zero, List.set_cons_succ])
    refine tk0 30 ⟨some 35, _, _, _, _, _⟩ rfl ?_
    (try simp only [Act.put, List.setIfInBounds_toArray, List.set_cons_zero, List.set_cons_succ])
    refine tk0 31 ⟨some 36, _, _, _, _, _⟩ rfl ?_
    (try simp only [Act.put, List.setIfInBounds_toArray, List.set_cons_zero, List.set_cons_succ])
    refine tk0 32 ⟨some 37, _, _, _, _, _⟩ rfl ?_
    (try simp only [Act.put, List.setIfInBounds_toArray, List.set_cons_zero, List.set_cons_succ])
    refine tk0 33 ⟨some 38, _, _, _, _, _⟩ rfl ?_
    (try simp only [Act.put, List.setIfInBounds_toArray, List.set_cons_zero, List.set_cons_succ])
    refine tk0 34 ⟨some 39, _, _, _, _, _⟩ rfl ?_
    (try simp only [Act.put, List.setIfInBounds_toArray, List.set_cons_zero, List.set_cons_succ])
    refine tk0 35 ⟨some 40, _, _, _, _, _⟩ rfl ?_
    (try simp only [Act.put, List.setIfInBounds_toArray, List.set_cons_zero, List.set_cons_succ])
    refine tk0 36 ⟨some 41, _, _, _, _, _⟩ rfl ?_
    (try simp only [Act.put, List.setIfInBounds_toArray, List.set_cons_zero, List.set_cons_succ])
    refine tk (v := ?_) 37 ⟨some 42, _, _, _, _, _⟩ rfl ?_ ?_
    rotate_left 2
    · (intro w hSw; (try dsimp only at hSw); go_simp; (try with_reducible rfl))
    (try simp only [Act.put, List.setIfInBounds_toArray, List.set_cons_zero, List.set_cons_succ])
    refine tk (v := ?_) 38 ⟨some 4, _, _, _, _, _⟩ rfl ?_ ?_
    rotate_left 2
    · (intro w hSw; (try dsimp only at hSw); go_simp; (try with_reducible rfl))
    (try simp only [Act.put, List.setIfInBounds_toArray, List.set_cons_zero, List.set_cons_succ])
    refine wpAnyH_done (by kernel_rfl) ?_ _
    go_wp2_with fail
    go_ret
    exact ⟨ret_bool (by first | (simp [inBoxB, C.out, D.out]; done) | (simp [inBoxB, C.out, D.out] <;> omega)), (Turns.more (by with_reducible repeat (first | exact Turns.refl _ _ | apply Turns.drew | apply Turns.drewN | apply Turns.alloc | refine Turns.via (by assumption) ?_)))⟩
  have hDd : decide (d0 < 0) = true := decide_eq_true (by omega)
  obtain ⟨e0, e0h⟩ : ∃ c, rCmp t (encR (frInt ly)) = c := ⟨_, rfl⟩
  obtain ⟨e0l, e0u⟩ : -1 ≤ e0 ∧ e0 ≤ 1 := by rw [← e0h]; exact rCmp_range _ _
  have E := Lib.hid e0h; clear e0h
  rcases (show 0 < e0 ∨ e0 ≤ 0 by omega) with hE | hE
  rotate_left
  · have hEd : decide (0 < e0) = false := decide_eq_false (by omega)
    have HX : More ((w.alloc (.cells #[.int .i64 lx, .int .i64 ly, .int .i64 hx, .int .i64 hy] 86)).alloc (.cells #[.bool s.1.1, .slice sa sn sc, .slice sd sm se, .bool t.1.1, .slice ta tn tc, .slice td tm te] 89)) ((w.alloc (.cells #[.int .i64 lx, .int .i64 ly, .int .i64 hx, .int .i64 hy] 86)).alloc (.cells #[.bool s.1.1, .slice sa sn sc, .slice sd sm se, .bool t.1.1, .slice ta tn tc, .slice td tm te] 89)) := More.refl _
    have HB : ∀ w', More ((w.alloc (.cells #[.int .i64 lx, .int .i64 ly, .int .i64 hx, .int .i64 hy] 86)).alloc (.cells #[.bool s.1.1, .slice sa sn sc, .slice sd sm se, .bool t.1.1, .slice ta tn tc, .slice td tm te] 89)) w' → w'.cell? ⟨w.heap.size, 0, none⟩ = some (.int .i64 lx) ∧ w'.cell? ⟨w.heap.size, 1, none⟩ = some (.int .i64 ly) ∧ w'.cell? ⟨w.heap.size, 2, none⟩ = some (.int .i64 hx) ∧ w'.cell? ⟨w.heap.size, 3, none⟩ = some (.int .i64 hy) ∧ (∀ j, w'.frozen? ⟨w.heap.size, j, none⟩ = false) ∧ w'.cell? ⟨w.heap.size + 1, 0, none⟩ = some (.bool s.1.1) ∧ w'.cell? ⟨w.heap.size + 1, 1, none⟩ = some (.slice sa sn sc) ∧ w'.cell? ⟨w.heap.size + 1, 2, none⟩ = some (.slice sd sm se) ∧ w'.cell? ⟨w.heap.size + 1, 3, none⟩ = some (.bool t.1.1) ∧ w'.cell? ⟨w.heap.size + 1, 4, none⟩ = some (.slice ta tn tc) ∧ w'.cell? ⟨w.heap.size + 1, 5, none⟩ = some (.slice td tm te) ∧ (∀ j, w'.frozen? ⟨w.heap.size + 1, j, none⟩ = false) := fun w' h => ⟨box_new (by simp) (More.un h) 0, box_new (by simp) (More.un h) 1, box_new (by simp) (More.un h) 2, box_new (by simp) (More.un h) 3, fun j => box_free (by simp) (More.un h) j, box_new (by simp) h 0, box_new (by simp) h 1, box_new (by simp) h 2, box_new (by simp) h 3, box_new (by simp) h 4, box_new (by simp) h 5, fun j => box_free (by simp) h j⟩
    have HC := fun (w' : World) (h : Turns [] ((w.alloc (.cells #[.int .i64 lx, .int .i64 ly, .int .i64 hx, .int .i64 hy] 86)).alloc (.cells #[.bool s.1.1, .slice sa sn sc, .slice sd sm se, .bool t.1.1, .slice ta tn tc, .slice td tm te] 89)) w') => HB w' (Turns.more h)
    go_enter Try.func109, Try.ntmps109
    go_wp2_with fail
    refine wp_region_held_drew (S := (fun w' => Turns [] ((w.alloc (.cells #[.int .i64 lx, .int .i64 ly, .int .i64 hx, .int .i64 hy] 86)).alloc (.cells #[.bool s.1.1, .slice sa sn sc, .slice sd sm se, .bool t.1.1, .slice ta tn tc, .slice td tm te] 89)) w')) (by kernel_rfl) ?_ (fun hHeld => ?_)
    · first | exact (by with_reducible repeat (first | exact Turns.refl _ _ | apply Turns.drew | apply Turns.drewN | apply Turns.alloc | refine Turns.setCell ?_ (by first | (left; simp; done) | (right; simp <;> omega)) _ | refine Turns.via (by assumption) ?_)) | exact (Turns.more (by with_reducible repeat (first | exact Turns.refl _ _ | apply Turns.drew | apply Turns.drewN | apply Turns.alloc | refine Turns.setCellR ?_ (by simp <;> omega) _ | refine Turns.via (by assumption) ?_)))
    refine tk (v := ?_) 0 ⟨some 5, _, _, _, _, _⟩ rfl ?_ ?_
    rotate_left 2
    · (intro w hSw; (try dsimp only at hSw); go_simp; (try with_reducible rfl))
    (try simp only [Act.put, List.setIfInBounds_toArray, List.set_cons_zero, List.set_cons_succ])
    refine tk (v := ?_) 1 ⟨some 6, _, _, _, _, _⟩ rfl ?_ ?_
    rotate_left 2
    · (intro w hSw; (try dsimp only at hSw); go_simp; (try with_reducible rfl))
    (try simp only [Act.put, List.setIfInBounds_toArray, List.set_cons_zero, List.set_cons_succ])
    refine tk (v := ?_) 2 ⟨some 7, _, _, _, _, _⟩ rfl ?_ ?_
    rotate_left 2
    · (intro w hSw; (try dsimp only at hSw); go_simp; (try with_reducible rfl))
    (try simp only [Act.put, List.setIfInBounds_toArray, List.set_cons_zero, List.set_cons_succ])
    refine tk (v := ?_) 3 ⟨some 8, _, _, _, _, _⟩ rfl ?_ ?_
    rotate_left 2
    · (intro w hSw; (try dsimp only at hSw); go_simp; (try with_reducible rfl))
    (try simp only [Act.put, List.setIfInBounds_toArray, List.set_cons_zero, List.set_cons_succ])
    refine tk (v := ?_) 4 ⟨some 9, _, _, _, _, _⟩ rfl ?_ ?_
    rotate_left 2
    · (intro w hSw; (try dsimp only at hSw); go_simp; (try with_reducible rfl))
    (try simp only [Act.put, List.setIfInBounds_toArray, List.set_cons_zero, List.set_cons_succ])
    refine wpAnyH_ready (rs := [5]) (by kernel_rfl) (by simp) ?_
    refine AllReadyH.cons (o := ⟨some 10, _, _, _, _, _⟩) rfl (fun K hK => ?_) AllReadyH.nil
    go_simp
    (go_at_call 86; (with_reducible refine (impl_ratInt lx _ HIlx.out).mono ?_); rintro e w1 ⟨u1, v1, rfl, hb1, g1⟩; rw [SIlx.out]; obtain ⟨r1a, r1n, r1c, r1d, r1m, r1e, rfl, rfl⟩ := g1.sh; have G1 := Lib.hid (int_raw SIlx.out g1); clear g1; have HX1 : More ((w.alloc (.cells #[.int .i64 lx, .int .i64 ly, .int .i64 hx, .int .i64 hy] 86)).alloc (.cells #[.bool s.1.1, .slice sa sn sc, .slice sd sm se, .bool t.1.1, .slice ta tn tc, .slice td tm te] 89)) w1 := (Turns.more (by with_reducible repeat (first | exact Turns.refl _ _ | apply Turns.drew | apply Turns.drewN | apply Turns.alloc | refine Turns.via (by assumption) ?_))); have HB1 := HB _ HX1; have hz1 := More.size HX1; (try simp at hz1); have hb1 := hb1)
    refine hK.out _ _ ?_ (fun hHeld => ?_)
    · first | exact (by with_reducible repeat (first | exact Turns.refl _ _ | apply Turns.drew | apply Turns.drewN | apply Turns.alloc | refine Turns.setCell ?_ (by first | (left; simp; done) | (right; simp <;> omega)) _ | refine Turns.via (by assumption) ?_)) | exact (Turns.more (by with_reducible repeat (first | exact Turns.refl _ _ | apply Turns.drew | apply Turns.drewN | apply Turns.alloc | refine Turns.setCellR ?_ (by simp <;> omega) _ | refine Turns.via (by assumption) ?_)))
    clear hK K
    (try simp only [Act.put, List.setIfInBounds_toArray, List.set_cons_zero, List.set_cons_succ])
    refine wpAnyH_ready (rs := [6]) (by kernel_rfl) (by simp) ?_
    refine AllReadyH.cons (o := ⟨some 11, _, _, _, _, _⟩) rfl (fun K hK => ?_) AllReadyH.nil
    go_simp
    (go_at_call 98; (with_reducible refine (impl_ratCmpX s s.1.1 (.slice sa sn sc) (.slice sd sm se) (encR (frInt lx)) s1 (.slice r1a r1n r1c) (.slice r1d r1m r1e) _ Ks.out KIlx.out (Ty.at_more Hs.out (Turns.more (by with_reducible repeat (first | exact Turns.refl _ _ | apply Turns.drew | apply Turns.drewN | apply Turns.alloc | refine Turns.via (by assumption) ?_)))) (Ty.at_more G1.out (Turns.more (by with_reducible repeat (first | exact Turns.refl _ _ | apply Turns.drew | apply Turns.drewN | apply Turns.alloc | refine Turns.via (by assumption) ?_))))).mono ?_); rintro e w2 ⟨rfl, hb2⟩; rw [C.out]; have HX2 : More ((w.alloc (.cells #[.int .i64 lx, .int .i64 ly, .int .i64 hx, .int .i64 hy] 86)).alloc (.cells #[.bool s.1.1, .slice sa sn sc, .slice sd sm se, .bool t.1.1, .slice ta tn tc, .slice td tm te] 89)) w2 := (Turns.more (by with_reducible repeat (first | exact Turns.refl _ _ | apply Turns.drew | apply Turns.drewN | apply Turns.alloc | refine Turns.via (by assumption) ?_))); have HB2 := HB _ HX2; have hz2 := More.size HX2; (try simp at hz2); have hb2 := hb2)
    refine hK.out _ _ ?_ (fun hHeld => ?_)
    · first | exact (by with_reducible repeat (first | exact Turns.refl _ _ | apply Turns.drew | apply Turns.drewN | apply Turns.alloc | refine Turns.setCell ?_ (by first | (left; simp; done) | (right; simp <;> omega)) _ | refine Turns.via (by assumption) ?_)) | exact (Turns.more (by with_reducible repeat (first | exact Turns.refl _ _ | apply Turns.drew | apply Turns.drewN | apply Turns.alloc | refine Turns.setCellR ?_ (by simp <;> omega) _ | refine Turns.via (by assumption) ?_)))
    clear hK K
    (try simp only [Act.put, List.setIfInBounds_toArray, List.set_cons_zero, List.set_cons_succ])
    refine tk (v := ?_) 7 ⟨some 12, _, _, _, _, _⟩ rfl ?_ ?_
    rotate_left 2
    · (intro w hSw; (try dsimp only at hSw); go_simp; (try with_reducible rfl))
    (try simp only [Act.put, List.setIfInBounds_toArray, List.set_cons_zero, List.set_cons_succ])
    refine tk (v := ?_) 8 ⟨some 13, _, _, _, _, _⟩ rfl ?_ ?_
    rotate_left 2
    · (intro w hSw; (try dsimp only at hSw); go_simp; (try with_reducible rfl))
    (try simp only [Act.put, List.setIfInBounds_toArray, List.set_cons_zero, List.set_cons_succ])
    refine tk (v := ?_) 9 ⟨some 14, _, _, _, _, _⟩ rfl ?_ ?_
    rotate_left 2
    · (intro w hSw; (try dsimp only at hSw); go_simp; (try with_reducible rfl))
    (try simp only [Act.put, List.setIfInBounds_toArray, List.set_cons_zero, List.set_cons_succ])
    refine tk (v := ?_) 10 ⟨some 15, _, _, _, _, _⟩ rfl ?_ ?_
    rotate_left 2
    · (intro w hSw; (try dsimp only at hSw); go_simp; (try with_reducible rfl))
    (try simp only [Act.put, List.setIfInBounds_toArray, List.set_cons_zero, List.set_cons_succ])
    refine tk (v := ?_) 11 ⟨some 16, _, _, _, _, _⟩ rfl ?_ ?_
    rotate_left 2
    · (intro w hSw; (try dsimp only at hSw); go_simp; (try with_reducible rfl))
    (try simp only [Act.put, List.setIfInBounds_toArray, List.set_cons_zero, List.set_cons_succ])
    refine tk (v := ?_) 12 ⟨some 17, _, _, _, _, _⟩ rfl ?_ ?_
    rotate_left 2
    · (intro w hSw; (try dsimp only at hSw); go_simp; (try with_reducible rfl))
    (try simp only [Act.put, List.setIfInBounds_toArray, List.set_cons_zero, List.set_cons_succ])
    refine tk (v := ?_) 13 ⟨some 18, _, _, _, _, _⟩ rfl ?_ ?_
    rotate_left 2
    · (intro w hSw; (try dsimp only at hSw); go_simp; (try with_reducible rfl))
    (try simp only [Act.put, List.setIfInBounds_toArray, List.set_cons_zero, List.set_cons_succ])
    refine wpAnyH_ready (rs := [14]) (by kernel_rfl) (by simp) ?_
    refine AllReadyH.cons (o := ⟨some 19, _, _, _, _, _⟩) rfl (fun K hK => ?_) AllReadyH.nil
    go_simp
    (go_at_call 86; (with_reducible refine (impl_ratInt hx _ HIhx.out).mono ?_); rintro e w3 ⟨u3, v3, rfl, hb3, g3⟩; rw [SIhx.out]; obtain ⟨r3a, r3n, r3c, r3d, r3m, r3e, rfl, rfl⟩ := g3.sh; have G3 := Lib.hid (int_raw SIhx.out g3); clear g3; have HX3 : More ((w.alloc (.cells #[.int .i64 lx, .int .i64 ly, .int .i64 hx, .int .i64 hy] 86)).alloc (.cells #[.bool s.1.1, .slice sa sn sc, .slice sd sm se, .bool t.1.1, .slice ta tn tc, .slice td tm te] 89)) w3 := (Turns.more (by with_reducible repeat (first | exact Turns.refl _ _ | apply Turns.drew | apply Turns.drewN | apply Turns.alloc | refine Turns.via (by assumption) ?_))); have HB3 := HB _ HX3; have hz3 := More.size HX3; (try simp at hz3); have hb3 := hb3)
    refine hK.out _ _ ?_ (fun hHeld => ?_)
    · first | exact (by with_reducible repeat (first | exact Turns.refl _ _ | apply Turns.drew | apply Turns.drewN | apply Turns.alloc | refine Turns.setCell ?_ (by first | (left; simp; done) | (right; simp <;> omega)) _ | refine Turns.via (by assumption) ?_)) | exact (Turns.more (by with_reducible repeat (first | exact Turns.refl _ _ | apply Turns.drew | apply Turns.drewN | apply Turns.alloc | refine Turns.setCellR ?_ (by simp <;> omega) _ | refine Turns.via (by assumption) ?_)))
    clear hK K
    (try simp only [Act.put, List.setIfInBounds_toArray, List.set_cons_zero, List.set_cons_succ])
    refine wpAnyH_ready (rs := [15]) (by kernel_rfl) (by simp) ?_
    refine AllReadyH.cons (o := ⟨some 20, _, _, _, _, _⟩) rfl (fun K hK => ?_) AllReadyH.nil
    go_simp
    (go_at_call 98; (with_reducible refine (impl_ratCmpX s s.1.1 (.slice sa sn sc) (.slice sd sm se) (encR (frInt hx)) s2 (.slice r3a r3n r3c) (.slice r3d r3m r3e) _ Ks.out KIhx.out (Ty.at_more Hs.out (Turns.more (by with_reducible repeat (first | exact Turns.refl _ _ | apply Turns.drew | apply Turns.drewN | apply Turns.alloc | refine Turns.via (by assumption) ?_)))) (Ty.at_more G3.out (Turns.more (by with_reducible repeat (first | exact Turns.refl _ _ | apply Turns.drew | apply Turns.drewN | apply Turns.alloc | refine Turns.via (by assumption) ?_))))).mono ?_); rintro e w4 ⟨rfl, hb4⟩; rw [D.out]; have HX4 : More ((w.alloc (.cells #[.int .i64 lx, .int .i64 ly, .int .i64 hx, .int .i64 hy] 86)).alloc (.cells #[.bool s.1.1, .slice sa sn sc, .slice sd sm se, .bool t.1.1, .slice ta tn tc, .slice td tm te] 89)) w4 := (Turns.more (by with_reducible repeat (first | exact Turns.refl _ _ | apply Turns.drew | apply Turns.drewN | apply Turns.alloc | refine Turns.via (by assumption) ?_))); have HB4 := HB _ HX4; have hz4 := More.size HX4; (try simp at hz4); have hb4 := hb4)
    refine hK.out _ _ ?_ (fun hHeld => ?_)
    · first | exact (by with_reducible repeat (first | exact Turns.refl _ _ | apply Turns.drew | apply Turns.drewN | apply Turns.alloc | refine Turns.setCell ?_ (by first | (left; simp; done) | (right; simp <;> omega)) _ | refine Turns.via (by assumption) ?_)) | exact (Turns.more (by with_reducible repeat (first | exact Turns.refl _ _ | apply Turns.drew | apply Turns.drewN | apply Turns.alloc | refine Turns.setCellR ?_ (by simp <;> omega) _ | refine Turns.via (by assumption) ?_)))
    clear hK K
    (try simp only [Act.put, List.setIfInBounds_toArray, List.set_cons_zero, List.set_cons_succ])
    refine tk (v := ?_) 16 ⟨some 21, _, _, _, _, _⟩ rfl ?_ ?_
    rotate_left 2
    · (intro w hSw; (try dsimp only at hSw); go_simp; (try with_reducible rfl))
    (try simp only [Act.put, List.setIfInBounds_toArray, List.set_cons_zero, List.set_cons_succ])
    refine tk (v := ?_) 17 ⟨some 22, _, _, _, _, _⟩ rfl ?_ ?_
    rotate_left 2
    · (intro w hSw; (try dsimp only at hSw); go_simp; (try with_reducible rfl))
    (try simp only [Act.put, List.setIfInBounds_toArray, List.set_cons_zero, List.set_cons_succ])
    refine tk (v := ?_) 18 ⟨some 23, _, _, _, _, _⟩ rfl ?_ ?_
    rotate_left 2
    · (intro w hSw; (try dsimp only at hSw); go_simp; (try with_reducible rfl))
    (try simp only [Act.put, List.setIfInBounds_toArray, List.set_cons_zero, List.set_cons_succ])
    refine tk (v := ?_) 19 ⟨some 24, _, _, _, _, _⟩ rfl ?_ ?_
    rotate_left 2
    · (intro w hSw; (try dsimp only at hSw); go_simp; (try with_reducible rfl))
    (try simp only [Act.put, List.setIfInBounds_toArray, List.set_cons_zero, List.set_cons_succ])
    refine tk (v := ?_) 20 ⟨some 25, _, _, _, _, _⟩ rfl ?_ ?_
    rotate_left 2
    · (intro w hSw; (try dsimp only at hSw); go_simp; (try with_reducible rfl))
    (try simp only [Act.put, List.setIfInBounds_toArray, List.set_cons_zero, List.set_cons_succ])
    refine tk (v := ?_) 21 ⟨some 26, _, _, _, _, _⟩ rfl ?_ ?_
    rotate_left 2
    · (intro w hSw; (try dsimp only at hSw); go_simp; (try with_reducible rfl))
    (try simp only [Act.put, List.setIfInBounds_toArray, List.set_cons_zero, List.set_cons_succ])
    refine tk (v := ?_) 22 ⟨some 27, _, _, _, _, _⟩ rfl ?_ ?_
    rotate_left 2
    · (intro w hSw; (try dsimp only at hSw); go_simp; (try with_reducible rfl))
    (try simp only [Act.put, List.setIfInBounds_toArray, List.set_cons_zero, List.set_cons_succ])
    refine tk (v := ?_) 23 ⟨some 28, _, _, _, _, _⟩ rfl ?_ ?_
    rotate_left 2
    · (intro w hSw; (try dsimp only at hSw); go_simp; (try with_reducible rfl))
    (try simp only [Act.put, List.setIfInBounds_toArray, List.set_cons_zero, List.set_cons_succ])
    refine wpAnyH_ready (rs := [24]) (by kernel_rfl) (by simp) ?_
    refine AllReadyH.cons (o := ⟨some 29, _, _, _, _, _⟩) rfl (fun K hK => ?_) AllReadyH.nil
    go_simp
    (go_at_call 86; (with_reducible refine (impl_ratInt ly _ HIly.out).mono ?_); rintro e w5 ⟨u5, v5, rfl, hb5, g5⟩; rw [SIly.out]; obtain ⟨r5a, r5n, r5c, r5d, r5m, r5e, rfl, rfl⟩ := g5.sh; have G5 := Lib.hid (int_raw SIly.out g5); clear g5; have HX5 : More ((w.alloc (.cells #[.int .i64 lx, .int .i64 ly, .int .i64 hx, .int .i64 hy] 86)).alloc (.cells #[.bool s.1.1, .slice sa sn sc, .slice sd sm se, .bool t.1.1, .slice ta tn tc, .slice td tm te] 89)) w5 := (Turns.more (by with_reducible repeat (first | exact Turns.refl _ _ | apply Turns.drew | apply Turns.drewN | apply Turns.alloc | refine Turns.via (by assumption) ?_))); have HB5 := HB _ HX5; have hz5 := More.size HX5; (try simp at hz5); have hb5 := hb5)
    refine hK.out _ _ ?_ (fun hHeld => ?_)
    · first | exact (by with_reducible repeat (first | exact Turns.refl _ _ | apply Turns.drew | apply Turns.drewN | apply Turns.alloc | refine Turns.setCell ?_ (by first | (left; simp; done) | (right; simp <;> omega)) _ | refine Turns.via (by assumption) ?_)) | exact (Turns.more (by with_reducible repeat (first | exact Turns.refl _ _ | apply Turns.drew | apply Turns.drewN | apply Turns.alloc | refine Turns.setCellR ?_ (by simp <;> omega) _ | refine Turns.via (by assumption) ?_)))
    clear hK K
    (try simp only [Act.put, List.setIfInBounds_toArray, List.set_cons_zero, List.set_cons_succ])
    refine wpAnyH_ready (rs := [25]) (by kernel_rfl) (by simp) ?_
    refine AllReadyH.cons (o := ⟨some 30, _, _, _, _, _⟩) rfl (fun K hK => ?_) AllReadyH.nil
    go_simp
    (go_at_call 98; (with_reducible refine (impl_ratCmpX t t.1.1 (.slice ta tn tc) (.slice td tm te) (encR (frInt ly)) s3 (.slice r5a r5n r5c) (.slice r5d r5m r5e) _ Kt.out KIly.out (Ty.at_more Ht.out (Turns.more (by with_reducible repeat (first | exact Turns.refl _ _ | apply Turns.drew | apply Turns.drewN | apply Turns.alloc | refine Turns.via (by assumption) ?_)))) (Ty.at_more G5.out (Turns.more (by with_reducible repeat (first | exact Turns.refl _ _ | apply Turns.drew | apply Turns.drewN | apply Turns.alloc | refine Turns.via (by assumption) ?_))))).mono ?_); rintro e w6 ⟨rfl, hb6⟩; rw [E.out]; have HX6 : More ((w.alloc (.cells #[.int .i64 lx, .int .i64 ly, .int .i64 hx, .int .i64 hy] 86)).alloc (.cells #[.bool s.1.1, .slice sa sn sc, .slice sd sm se, .bool t.1.1, .slice ta tn tc, .slice td tm te] 89)) w6 := (Turns.more (by with_reducible repeat (first | exact Turns.refl _ _ | apply Turns.drew | apply Turns.drewN | apply Turns.alloc | refine Turns.via (by assumption) ?_))); have HB6 := HB _ HX6; have hz6 := More.size HX6; (try simp at hz6); have hb6 := hb6)
    refine hK.out _ _ ?_ (fun hHeld => ?_)
    · first | exact (by with_reducible repeat (first | exact Turns.refl _ _ | apply Turns.drew | apply Turns.drewN | apply Turns.alloc | refine Turns.setCell ?_ (by first | (left; simp; done) | (right; simp <;> omega)) _ | refine Turns.via (by assumption) ?_)) | exact (Turns.more (by with_reducible repeat (first | exact Turns.refl _ _ | apply Turns.drew | apply Turns.drewN | apply Turns.alloc | refine Turns.setCellR ?_ (by simp <;> omega) _ | refine Turns.via (by assumption) ?_)))
    clear hK K
    (try simp only [Act.put, List.setIfInBounds_toArray, List.set_cons_zero, List.set_cons_succ])
    refine tk (v := ?_) 26 ⟨some 31, _, _, _, _, _⟩ rfl ?_ ?_
    rotate_left 2
    · (intro w hSw; (try dsimp only at hSw); go_simp; (try with_reducible rfl))
    (try simp only [Act.put, List.setIfInBounds_toArray, List.set_cons_zero, List.set_cons_succ])
    refine tk (v := ?_) 27 ⟨some 32, _, _, _, _, _⟩ rfl ?_ ?_
    rotate_left 2
    · (intro w hSw; (try dsimp only at hSw); go_simp; (try with_reducible rfl))
    (try simp only [Act.put, List.setIfInBounds_toArray, List.set_cons_zero, List.set_cons_succ])
    refine tk (v := ?_) 28 ⟨some 33, _, _, _, _, _⟩ rfl ?_ ?_
    rotate_left 2
    · (intro w hSw; (try dsimp only at hSw); go_simp; (try with_reducible rfl))
    (try simp only [Act.put, List.setIfInBounds_toArray, List.set_cons_zero, List.set_cons_succ])
    refine tk0 29 ⟨some 34, _, _, _, _, _⟩ rfl ?_
    (try simp only [Act.put, List.setIfInBounds_toArray, List.set_cons_zero, List.set_cons_succ])
    refine tk0 30 ⟨some 35, _, _, _, _, _⟩ rfl ?_
    (try simp only [Act.put, List.setIfInBounds_toArray, List.set_cons_zero, List.set_cons_succ])
    refine tk0 31 ⟨some 36, _, _, _, _, _⟩ rfl ?_
    (try simp only [Act.put, List.setIfInBounds_toArray, List.set_cons_zero, List.set_cons_succ])
    refine tk0 32 ⟨some 37, _, _, _, _, _⟩ rfl ?_
    (try simp only [Act.put, List.setIfInBounds_toArray, List.set_cons_zero, List.set_cons_succ])
    refine tk0 33 ⟨some 38, _, _, _, _, _⟩ rfl ?_
    (try simp only [Act.put, List.setIfInBounds_toArray, List.set_cons_zero, List.set_cons_succ])
    refine tk0 34 ⟨some 39, _, _, _, _, _⟩ rfl ?_
    (try simp only [Act.put, List.setIfInBounds_toArray, List.set_cons_zero, List.set_cons_succ])
    refine tk0 35 ⟨some 40, _, _, _, _, _⟩ rfl ?_
    (try simp only [Act.put, List.setIfInBounds_toArray, List.set_cons_zero, List.set_cons_succ])
    refine tk0 36 ⟨some 41, _, _, _, _, _⟩ rfl ?_
    (try simp only [Act.put, List.setIfInBounds_toArray, List.set_cons_zero, List.set_cons_succ])
    refine tk (v := ?_) 37 ⟨some 42, _, _, _, _, _⟩ rfl ?_ ?_
    rotate_left 2
    · (intro w hSw; (try dsimp only at hSw); go_simp; (try with_reducible rfl))
    (try simp only [Act.put, List.setIfInBounds_toArray, List.set_cons_zero, List.set_cons_succ])
    refine tk (v := ?_) 38 ⟨some 4, _, _, _, _, _⟩ rfl ?_ ?_
    rotate_left 2
    · (intro w hSw; (try dsimp only at hSw); go_simp; (try with_reducible rfl))
    (try simp only [Act.put, List.setIfInBounds_toArray, List.set_cons_zero, List.set_cons_succ])
    refine wpAnyH_done (by kernel_rfl) ?_ _
    go_wp2_with fail
    go_ret
    exact ⟨ret_bool (by first | (simp [inBoxB, C.out, D.out, E.out]; done) | (simp [inBoxB, C.out, D.out, E.out] <;> omega)), (Turns.more (by with_reducible repeat (first | exact Turns.refl _ _ | apply Turns.drew | apply Turns.drewN | apply Turns.alloc | refine Turns.via (by assumption) ?_)))⟩
  have hEd : decide (0 < e0) = true := decide_eq_true (by omega)
  obtain ⟨f0, f0h⟩ : ∃ c, rCmp t (encR (frInt hy)) = c := ⟨_, rfl⟩
  obtain ⟨f0l, f0u⟩ : -1 ≤ f0 ∧ f0 ≤ 1 := by rw [← f0h]; exact rCmp_range _ _
  have F := Lib.hid f0h; clear f0h
  rcases (show f0 < 0 ∨ 0 ≤ f0 by omega) with hF | hF
  rotate_left
  · have hFd : decide (f0 < 0) = false := decide_eq_false (by omega)
    have HX : More ((w.alloc (.cells #[.int .i64 lx, .int .i64 ly, .int .i64 hx, .int .i64 hy] 86)).alloc (.cells #[.bool s.1.1, .slice sa sn sc, .slice sd sm se, .bool t.1.1, .slice ta tn tc, .slice td tm te] 89)) ((w.alloc (.cells #[.int .i64 lx, .int .i64 ly, .int .i64 hx, .int .i64 hy] 86)).alloc (.cells #[.bool s.1.1, .slice sa sn sc, .slice sd sm se, .bool t.1.1, .slice ta tn tc, .slice td tm te] 89)) := More.refl _
    have HB : ∀ w', More ((w.alloc (.cells #[.int .i64 lx, .int .i64 ly, .int .i64 hx, .int .i64 hy] 86)).alloc (.cells #[.bool s.1.1, .slice sa sn sc, .slice sd sm se, .bool t.1.1, .slice ta tn tc, .slice td tm te] 89)) w' → w'.cell? ⟨w.heap.size, 0, none⟩ = some (.int .i64 lx) ∧ w'.cell? ⟨w.heap.size, 1, none⟩ = some (.int .i64 ly) ∧ w'.cell? ⟨w.heap.size, 2, none⟩ = some (.int .i64 hx) ∧ w'.cell? ⟨w.heap.size, 3, none⟩ = some (.int .i64 hy) ∧ (∀ j, w'.frozen? ⟨w.heap.size, j, none⟩ = false) ∧ w'.cell? ⟨w.heap.size + 1, 0, none⟩ = some (.bool s.1.1) ∧ w'.cell? ⟨w.heap.size + 1, 1, none⟩ = some (.slice sa sn sc) ∧ w'.cell? ⟨w.heap.size + 1, 2, none⟩ = some (.slice sd sm se) ∧ w'.cell? ⟨w.heap.size + 1, 3, none⟩ = some (.bool t.1.1) ∧ w'.cell? ⟨w.heap.size + 1, 4, none⟩ = some (.slice ta tn tc) ∧ w'.cell? ⟨w.heap.size + 1, 5, none⟩ = some (.slice td tm te) ∧ (∀ j, w'.frozen? ⟨w.heap.size + 1, j, none⟩ = false) := fun w' h => ⟨box_new (by simp) (More.un h) 0, box_new (by simp) (More.un h) 1, box_new (by simp) (More.un h) 2, box_new (by simp) (More.un h) 3, fun j => box_free (by simp) (More.un h) j, box_new (by simp) h 0, box_new (by simp) h 1, box_new (by simp) h 2, box_new (by simp) h 3, box_new (by simp) h 4, box_new (by simp) h 5, fun j => box_free (by simp) h j⟩
    have HC := fun (w' : World) (h : Turns [] ((w.alloc (.cells #[.int .i64 lx, .int .i64 ly, .int .i64 hx, .int .i64 hy] 86)).alloc (.cells #[.bool s.1.1, .slice sa sn sc, .slice sd sm se, .bool t.1.1, .slice ta tn tc, .slice td tm te] 89)) w') => HB w' (Turns.more h)
    go_enter Try.func109, Try.ntmps109
    go_wp2_with fail
    refine wp_region_held_drew (S := (fun w' => Turns [] ((w.alloc (.cells #[.int .i64 lx, .int .i64 ly, .int .i64 hx, .int .i64 hy] 86)).alloc (.cells #[.bool s.1.1, .slice sa sn sc, .slice sd sm se, .bool t.1.1, .slice ta tn tc, .slice td tm te] 89)) w')) (by kernel_rfl) ?_ (fun hHeld => ?_)
    · first | exact (by with_reducible repeat (first | exact Turns.refl _ _ | apply Turns.drew | apply Turns.drewN | apply Turns.alloc | refine Turns.setCell ?_ (by first | (left; simp; done) | (right; simp <;> omega)) _ | refine Turns.via (by assumption) ?_)) | exact (Turns.more (by with_reducible repeat (first | exact Turns.refl _ _ | apply Turns.drew | apply Turns.drewN | apply Turns.alloc | refine Turns.setCellR ?_ (by simp <;> omega) _ | refine Turns.via (by assumption) ?_)))
    refine tk (v := ?_) 0 ⟨some 5, _, _, _, _, _⟩ rfl ?_ ?_
    rotate_left 2
    · (intro w hSw; (try dsimp only at hSw); go_simp; (try with_reducible rfl))
    (try simp only [Act.put, List.setIfInBounds_toArray, List.set_cons_zero, List.set_cons_succ])
    refine tk (v := ?_) 1 ⟨some 6, _, _, _, _, _⟩ rfl ?_ ?_
    rotate_left 2
    · (intro w hSw; (try dsimp only at hSw); go_simp; (try with_reducible rfl))
    (try simp only [Act.put, List.setIfInBounds_toArray, List.set_cons_zero, List.set_cons_succ])
    refine tk (v := ?_) 2 ⟨some 7, _, _, _, _, _⟩ rfl ?_ ?_
    rotate_left 2
    · (intro w hSw; (try dsimp only at hSw); go_simp; (try with_reducible rfl))
    (try simp only [Act.put, List.setIfInBounds_toArray, List.set_cons_zero, List.set_cons_succ])
    refine tk (v := ?_) 3 ⟨some 8, _, _, _, _, _⟩ rfl ?_ ?_
    rotate_left 2
    · (intro w hSw; (try dsimp only at hSw); go_simp; (try with_reducible rfl))
    (try simp only [Act.put, List.setIfInBounds_toArray, List.set_cons_zero, List.set_cons_succ])
    refine tk (v := ?_) 4 ⟨some 9, _, _, _, _, _⟩ rfl ?_ ?_
    rotate_left 2
    · (intro w hSw; (try dsimp only at hSw); go_simp; (try with_reducible rfl))
    (try simp only [Act.put, List.setIfInBounds_toArray, List.set_cons_zero, List.set_cons_succ])
    refine wpAnyH_ready (rs := [5]) (by kernel_rfl) (by simp) ?_
    refine AllReadyH.cons (o := ⟨some 10, _, _, _, _, _⟩) rfl (fun K hK => ?_) AllReadyH.nil
    go_simp
    (go_at_call 86; (with_reducible refine (impl_ratInt lx _ HIlx.out).mono ?_); rintro e w1 ⟨u1, v1, rfl, hb1, g1⟩; rw [SIlx.out]; obtain ⟨r1a, r1n, r1c, r1d, r1m, r1e, rfl, rfl⟩ := g1.sh; have G1 := Lib.hid (int_raw SIlx.out g1); clear g1; have HX1 : More ((w.alloc (.cells #[.int .i64 lx, .int .i64 ly, .int .i64 hx, .int .i64 hy] 86)).alloc (.cells #[.bool s.1.1, .slice sa sn sc, .slice sd sm se, .bool t.1.1, .slice ta tn tc, .slice td tm te] 89)) w1 := (Turns.more (by with_reducible repeat (first | exact Turns.refl _ _ | apply Turns.drew | apply Turns.drewN | apply Turns.alloc | refine Turns.via (by assumption) ?_))); have HB1 := HB _ HX1; have hz1 := More.size HX1; (try simp at hz1); have hb1 := hb1)
    refine hK.out _ _ ?_ (fun hHeld => ?_)
    · first | exact (by with_reducible repeat (first | exact Turns.refl _ _ | apply Turns.drew | apply Turns.drewN | apply Turns.alloc | refine Turns.setCell ?_ (by first | (left; simp; done) | (right; simp <;> omega)) _ | refine Turns.via (by assumption) ?_)) | exact (Turns.more (by with_reducible repeat (first | exact Turns.refl _ _ | apply Turns.drew | apply Turns.drewN | apply Turns.alloc | refine Turns.setCellR ?_ (by simp <;> omega) _ | refine Turns.via (by assumption) ?_)))
    clear hK K
    (try simp only [Act.put, List.setIfInBounds_toArray, List.set_cons_zero, List.set_cons_succ])
    refine wpAnyH_ready (rs := [6]) (by kernel_rfl) (by simp) ?_
    refine AllReadyH.cons (o := ⟨some 11, _, _, _, _, _⟩) rfl (fun K hK => ?_) AllReadyH.nil
    go_simp
    (go_at_call 98; (with_reducible refine (impl_ratCmpX s s.1.1 (.slice sa sn sc) (.slice sd sm se) (encR (frInt lx)) s1 (.slice r1a r1n r1c) (.slice r1d r1m r1e) _ Ks.out KIlx.out (Ty.at_more Hs.out (Turns.more (by with_reducible repeat (first | exact Turns.refl _ _ | apply Turns.drew | apply Turns.drewN | apply Turns.alloc | refine Turns.via (by assumption) ?_)))) (Ty.at_more G1.out (Turns.more (by with_reducible repeat (first | exact Turns.refl _ _ | apply Turns.drew | apply Turns.drewN | apply Turns.alloc | refine Turns.via (by assumption) ?_))))).mono ?_); rintro e w2 ⟨rfl, hb2⟩; rw [C.out]; have HX2 : More ((w.alloc (.cells #[.int .i64 lx, .int .i64 ly, .int .i64 hx, .int .i64 hy] 86)).alloc (.cells #[.bool s.1.1, .slice sa sn sc, .slice sd sm se, .bool t.1.1, .slice ta tn tc, .slice td tm te] 89)) w2 := (Turns.more (by with_reducible repeat (first | exact Turns.refl _ _ | apply Turns.drew | apply Turns.drewN | apply Turns.alloc | refine Turns.via (by assumption) ?_))); have HB2 := HB _ HX2; have hz2 := More.size HX2; (try simp at hz2); have hb2 := hb2)
    refine hK.out _ _ ?_ (fun hHeld => ?_)
    · first | exact (by with_reducible repeat (first | exact Turns.refl _ _ | apply Turns.drew | apply Turns.drewN | apply Turns.alloc | refine Turns.setCell ?_ (by first | (left; simp; done) | (right; simp <;> omega)) _ | refine Turns.via (by assumption) ?_)) | exact (Turns.more (by with_reducible repeat (first | exact Turns.refl _ _ | apply Turns.drew | apply Turns.drewN | apply Turns.alloc | refine Turns.setCellR ?_ (by simp <;> omega) _ | refine Turns.via (by assumption) ?_)))
    clear hK K
    (try simp only [Act.put, List.setIfInBounds_toArray, List.set_cons_zero, List.set_cons_succ])
    refine tk (v := ?_) 7 ⟨some 12, _, _, _, _, _⟩ rfl ?_ ?_
    rotate_left 2
    · (intro w hSw; (try dsimp only at hSw); go_simp; (try with_reducible rfl))
    (try simp only [Act.put, List.setIfInBounds_toArray, List.set_cons_zero, List.set_cons_succ])
    refine tk (v := ?_) 8 ⟨some 13, _, _, _, _, _⟩ rfl ?_ ?_
    rotate_left 2
    · (intro w hSw; (try dsimp only at hSw); go_simp; (try with_reducible rfl))
    (try simp only [Act.put, List.setIfInBounds_toArray, List.set_cons_zero, List.set_cons_succ])
    refine tk (v := ?_) 9 ⟨some 14, _, _, _, _, _⟩ rfl ?_ ?_
    rotate_left 2
    · (intro w hSw; (try dsimp only at hSw); go_simp; (try with_reducible rfl))
    (try simp only [Act.put, List.setIfInBounds_toArray, List.set_cons_zero, List.set_cons_succ])
    refine tk (v := ?_) 10 ⟨some 15, _, _, _, _, _⟩ rfl ?_ ?_
    rotate_left 2
    · (intro w hSw; (try dsimp only at hSw); go_simp; (try with_reducible rfl))
    (try simp only [Act.put, List.setIfInBounds_toArray, List.set_cons_zero, List.set_cons_succ])
    refine tk (v := ?_) 11 ⟨some 16, _, _, _, _, _⟩ rfl ?_ ?_
    rotate_left 2
    · (intro w hSw; (try dsimp only at hSw); go_simp; (try with_reducible rfl))
    (try simp only [Act.put, List.setIfInBounds_toArray, List.set_cons_zero, List.set_cons_succ])
    refine tk (v := ?_) 12 ⟨some 17, _, _, _, _, _⟩ rfl ?_ ?_
    rotate_left 2
    · (intro w hSw; (try dsimp only at hSw); go_simp; (try with_reducible rfl))
    (try simp only [Act.put, List.setIfInBounds_toArray, List.set_cons_zero, List.set_cons_succ])
    refine tk (v := ?_) 13 ⟨some 18, _, _, _, _, _⟩ rfl ?_ ?_
    rotate_left 2
    · (intro w hSw; (try dsimp only at hSw); go_simp; (try with_reducible rfl))
    (try simp only [Act.put, List.setIfInBounds_toArray, List.set_cons_zero, List.set_cons_succ])
    refine wpAnyH_ready (rs := [14]) (by kernel_rfl) (by simp) ?_
    refine AllReadyH.cons (o := ⟨some 19, _, _, _, _, _⟩) rfl (fun K hK => ?_) AllReadyH.nil
    go_simp
    (go_at_call 86; (with_reducible refine (impl_ratInt hx _ HIhx.out).mono ?_); rintro e w3 ⟨u3, v3, rfl, hb3, g3⟩; rw [SIhx.out]; obtain ⟨r3a, r3n, r3c, r3d, r3m, r3e, rfl, rfl⟩ := g3.sh; have G3 := Lib.hid (int_raw SIhx.out g3); clear g3; have HX3 : More ((w.alloc (.cells #[.int .i64 lx, .int .i64 ly, .int .i64 hx, .int .i64 hy] 86)).alloc (.cells #[.bool s.1.1, .slice sa sn sc, .slice sd sm se, .bool t.1.1, .slice ta tn tc, .slice td tm te] 89)) w3 := (Turns.more (by with_reducible repeat (first | exact Turns.refl _ _ | apply Turns.drew | apply Turns.drewN | apply Turns.alloc | refine Turns.via (by assumption) ?_))); have HB3 := HB _ HX3; have hz3 := More.size HX3; (try simp at hz3); have hb3 := hb3)
    refine hK.out _ _ ?_ (fun hHeld => ?_)
    · first | exact (by with_reducible repeat (first | exact Turns.refl _ _ | apply Turns.drew | apply Turns.drewN | apply Turns.alloc | refine Turns.setCell ?_ (by first | (left; simp; done) | (right; simp <;> omega)) _ | refine Turns.via (by assumption) ?_)) | exact (Turns.more (by with_reducible repeat (first | exact Turns.refl _ _ | apply Turns.drew | apply Turns.drewN | apply Turns.alloc | refine Turns.setCellR ?_ (by simp <;> omega) _ | refine Turns.via (by assumption) ?_)))
    clear hK K
    (try simp only [Act.put, List.setIfInBounds_toArray, List.set_cons_zero, List.set_cons_succ])
    refine wpAnyH_ready (rs := [15]) (by kernel_rfl) (by simp) ?_
    refine AllReadyH.cons (o := ⟨some 20, _, _, _, _, _⟩) rfl (fun K hK => ?_) AllReadyH.nil
    go_simp
    (go_at_call 98; (with_reducible refine (impl_ratCmpX s s.1.1 (.slice sa sn sc) (.slice sd sm se) (encR (frInt hx)) s2 (.slice r3a r3n r3c) (.slice r3d r3m r3e) _ Ks.out KIhx.out (Ty.at_more Hs.out (Turns.more (by with_reducible repeat (first | exact Turns.refl _ _ | apply Turns.drew | apply Turns.drewN | apply Turns.alloc | refine Turns.via (by assumption) ?_)))) (Ty.at_more G3.out (Turns.more (by with_reducible repeat (first | exact Turns.refl _ _ | apply Turns.drew | apply Turns.drewN | apply Turns.alloc | refine Turns.via (by assumption) ?_))))).mono ?_); rintro e w4 ⟨rfl, hb4⟩; rw [D.out]; have HX4 : More ((w.alloc (.cells #[.int .i64 lx, .int .i64 ly, .int .i64 hx, .int .i64 hy] 86)).alloc (.cells #[.bool s.1.1, .slice sa sn sc, .slice sd sm se, .bool t.1.1, .slice ta tn tc, .slice td tm te] 89)) w4 := (Turns.more (by with_reducible repeat (first | exact Turns.refl _ _ | apply Turns.drew | apply Turns.drewN | apply Turns.alloc | refine Turns.via (by assumption) ?_))); have HB4 := HB _ HX4; have hz4 := More.size HX4; (try simp at hz4); have hb4 := hb4)
    refine hK.out _ _ ?_ (fun hHeld => ?_)
    · first | exact (by with_reducible repeat (first | exact Turns.refl _ _ | apply Turns.drew | apply Turns.drewN | apply Turns.alloc | refine Turns.setCell ?_ (by first | (left; simp; done) | (right; simp <;> omega)) _ | refine Turns.via (by assumption) ?_)) | exact (Turns.more (by with_reducible repeat (first | exact Turns.refl _ _ | apply Turns.drew | apply Turns.drewN | apply Turns.alloc | refine Turns.setCellR ?_ (by simp <;> omega) _ | refine Turns.via (by assumption) ?_)))
    clear hK K
    (try simp only [Act.put, List.setIfInBounds_toArray, List.set_cons_zero, List.set_cons_succ])
    refine tk (v := ?_) 16 ⟨some 21, _, _, _, _, _⟩ rfl ?_ ?_
    rotate_left 2
    · (intro w hSw; (try dsimp only at hSw); go_simp; (try with_reducible rfl))
    (try simp only [Act.put, List.setIfInBounds_toArray, List.set_cons_zero, List.set_cons_succ])
    refine tk (v := ?_) 17 ⟨some 22, _, _, _, _, _⟩ rfl ?_ ?_
    rotate_left 2
    · (intro w hSw; (try dsimp only at hSw); go_simp; (try with_reducible rfl))
    (try simp only [Act.put, List.setIfInBounds_toArray, List.set_cons_zero, List.set_cons_succ])
    refine tk (v := ?_) 18 ⟨some 23, _, _, _, _, _⟩ rfl ?_ ?_
    rotate_left 2
    · (intro w hSw; (try dsimp only at hSw); go_simp; (try with_reducible rfl))
    (try simp only [Act.put, List.setIfInBounds_toArray, List.set_cons_zero, List.set_cons_succ])
    refine tk (v := ?_) 19 ⟨some 24, _, _, _, _, _⟩ rfl ?_ ?_
    rotate_left 2
    · (intro w hSw; (try dsimp only at hSw); go_simp; (try with_reducible rfl))
    (try simp only [Act.put, List.setIfInBounds_toArray, List.set_cons_zero, List.set_cons_succ])
    refine tk (v := ?_) 20 ⟨some 25, _, _, _, _, _⟩ rfl ?_ ?_
    rotate_left 2
    · (intro w hSw; (try dsimp only at hSw); go_simp; (try with_reducible rfl))
    (try simp only [Act.put, List.setIfInBounds_toArray, List.set_cons_zero, List.set_cons_succ])
    refine tk (v := ?_) 21 ⟨some 26, _, _, _, _, _⟩ rfl ?_ ?_
    rotate_left 2
    · (intro w hSw; (try dsimp only at hSw); go_simp; (try with_reducible rfl))
    (try simp only [Act.put, List.setIfInBounds_toArray, List.set_cons_zero, List.set_cons_succ])
    refine tk (v := ?_) 22 ⟨some 27, _, _, _, _, _⟩ rfl ?_ ?_
    rotate_left 2
    · (intro w hSw; (try dsimp only at hSw); go_simp; (try with_reducible rfl))
    (try simp only [Act.put, List.setIfInBounds_toArray, List.set_cons_zero, List.set_cons_succ])
    refine tk (v := ?_) 23 ⟨some 28, _, _, _, _, _⟩ rfl ?_ ?_
    rotate_left 2
    · (intro w hSw; (try dsimp only at hSw); go_simp; (try with_reducible rfl))
    (try simp only [Act.put, List.setIfInBounds_toArray, List.set_cons_zero, List.set_cons_succ])
    refine wpAnyH_ready (rs := [24]) (by kernel_rfl) (by simp) ?_
    refine AllReadyH.cons (o := ⟨some 29, _, _, _, _, _⟩) rfl (fun K hK => ?_) AllReadyH.nil
    go_simp
    (go_at_call 86; (with_reducible refine (impl_ratInt ly _ HIly.out).mono ?_); rintro e w5 ⟨u5, v5, rfl, hb5, g5⟩; rw [SIly.out]; obtain ⟨r5a, r5n, r5c, r5d, r5m, r5e, rfl, rfl⟩ := g5.sh; have G5 := Lib.hid (int_raw SIly.out g5); clear g5; have HX5 : More ((w.alloc (.cells #[.int .i64 lx, .int .i64 ly, .int .i64 hx, .int .i64 hy] 86)).alloc (.cells #[.bool s.1.1, .slice sa sn sc, .slice sd sm se, .bool t.1.1, .slice ta tn tc, .slice td tm te] 89)) w5 := (Turns.more (by with_reducible repeat (first | exact Turns.refl _ _ | apply Turns.drew | apply Turns.drewN | apply Turns.alloc | refine Turns.via (by assumption) ?_))); have HB5 := HB _ HX5; have hz5 := More.size HX5; (try simp at hz5); have hb5 := hb5)
    refine hK.out _ _ ?_ (fun hHeld => ?_)
    · first | exact (by with_reducible repeat (first | exact Turns.refl _ _ | apply Turns.drew | apply Turns.drewN | apply Turns.alloc | refine Turns.setCell ?_ (by first | (left; simp; done) | (right; simp <;> omega)) _ | refine Turns.via (by assumption) ?_)) | exact (Turns.more (by with_reducible repeat (first | exact Turns.refl _ _ | apply Turns.drew | apply Turns.drewN | apply Turns.alloc | refine Turns.setCellR ?_ (by simp <;> omega) _ | refine Turns.via (by assumption) ?_)))
    clear hK K
    (try simp only [Act.put, List.setIfInBounds_toArray, List.set_cons_zero, List.set_cons_succ])
    refine wpAnyH_ready (rs := [25]) (by kernel_rfl) (by simp) ?_
    refine AllReadyH.cons (o := ⟨some 30, _, _, _, _, _⟩) rfl (fun K hK => ?_) AllReadyH.nil
    go_simp
    (go_at_call 98; (with_reducible refine (impl_ratCmpX t t.1.1 (.slice ta tn tc) (.slice td tm te) (encR (frInt ly)) s3 (.slice r5a r5n r5c) (.slice r5d r5m r5e) _ Kt.out KIly.out (Ty.at_more Ht.out (Turns.more (by with_reducible repeat (first | exact Turns.refl _ _ | apply Turns.drew | apply Turns.drewN | apply Turns.alloc | refine Turns.via (by assumption) ?_)))) (Ty.at_more G5.out (Turns.more (by with_reducible repeat (first | exact Turns.refl _ _ | apply Turns.drew | apply Turns.drewN | apply Turns.alloc | refine Turns.via (by assumption) ?_))))).mono ?_); rintro e w6 ⟨rfl, hb6⟩; rw [E.out]; have HX6 : More ((w.alloc (.cells #[.int .i64 lx, .int .i64 ly, .int .i64 hx, .int .i64 hy] 86)).alloc (.cells #[.bool s.1.1, .slice sa sn sc, .slice sd sm se, .bool t.1.1, .slice ta tn tc, .slice td tm te] 89)) w6 := (Turns.more (by with_reducible repeat (first | exact Turns.refl _ _ | apply Turns.drew | apply Turns.drewN | apply Turns.alloc | refine Turns.via (by assumption) ?_))); have HB6 := HB _ HX6; have hz6 := More.size HX6; (try simp at hz6); have hb6 := hb6)
    refine hK.out _ _ ?_ (fun hHeld => ?_)
    · first | exact (by with_reducible repeat (first | exact Turns.refl _ _ | apply Turns.drew | apply Turns.drewN | apply Turns.alloc | refine Turns.setCell ?_ (by first | (left; simp; done) | (right; simp <;> omega)) _ | refine Turns.via (by assumption) ?_)) | exact (Turns.more (by with_reducible repeat (first | exact Turns.refl _ _ | apply Turns.drew | apply Turns.drewN | apply Turns.alloc | refine Turns.setCellR ?_ (by simp <;> omega) _ | refine Turns.via (by assumption) ?_)))
    clear hK K
    (try simp only [Act.put, List.setIfInBounds_toArray, List.set_cons_zero, List.set_cons_succ])
    refine tk (v := ?_) 26 ⟨some 31, _, _, _, _, _⟩ rfl ?_ ?_
    rotate_left 2
    · (intro w hSw; (try dsimp only at hSw); go_simp; (try with_reducible rfl))
    (try simp only [Act.put, List.setIfInBounds_toArray, List.set_cons_zero, List.set_cons_succ])
    refine tk (v := ?_) 27 ⟨some 32, _, _, _, _, _⟩ rfl ?_ ?_
    rotate_left 2
    · (intro w hSw; (try dsimp only at hSw); go_simp; (try with_reducible rfl))
    (try simp only [Act.put, List.setIfInBounds_toArray, List.set_cons_zero, List.set_cons_succ])
    refine tk (v := ?_) 28 ⟨some 33, _, _, _, _, _⟩ rfl ?_ ?_
    rotate_left 2
    · (intro w hSw; (try dsimp only at hSw); go_simp; (try with_reducible rfl))
    (try simp only [Act.put, List.setIfInBounds_toArray, List.set_cons_zero, List.set_cons_succ])
    refine tk (v := ?_) 29 ⟨some 34, _, _, _, _, _⟩ rfl ?_ ?_
    rotate_left 2
    · (intro w hSw; (try dsimp only at hSw); go_simp; (try with_reducible rfl))
    (try simp only [Act.put, List.setIfInBounds_toArray, List.set_cons_zero, List.set_cons_succ])
    refine tk (v := ?_) 30 ⟨some 35, _, _, _, _, _⟩ rfl ?_ ?_
    rotate_left 2
    · (intro w hSw; (try dsimp only at hSw); go_simp; (try with_reducible rfl))
    (try simp only [Act.put, List.setIfInBounds_toArray, List.set_cons_zero, List.set_cons_succ])
    refine tk (v := ?_) 31 ⟨some 36, _, _, _, _, _⟩ rfl ?_ ?_
    rotate_left 2
    · (intro w hSw; (try dsimp only at hSw); go_simp; (try with_reducible rfl))
    (try simp only [Act.put, List.setIfInBounds_toArray, List.set_cons_zero, List.set_cons_succ])
    refine tk (v := ?_) 32 ⟨some 37, _, _, _, _, _⟩ rfl ?_ ?_
    rotate_left 2
    · (intro w hSw; (try dsimp only at hSw); go_simp; (try with_reducible rfl))
    (try simp only [Act.put, List.setIfInBounds_toArray, List.set_cons_zero, List.set_cons_succ])
    refine tk (v := ?_) 33 ⟨some 38, _, _, _, _, _⟩ rfl ?_ ?_
    rotate_left 2
    · (intro w hSw; (try dsimp only at hSw); go_simp; (try with_reducible rfl))
    (try simp only [Act.put, List.setIfInBounds_toArray, List.set_cons_zero, List.set_cons_succ])
    refine wpAnyH_ready (rs := [34]) (by kernel_rfl) (by simp) ?_
    refine AllReadyH.cons (o := ⟨some 39, _, _, _, _, _⟩) rfl (fun K hK => ?_) AllReadyH.nil
    go_simp
    (go_at_call 86; (with_reducible refine (impl_ratInt hy _ HIhy.out).mono ?_); rintro e w7 ⟨u7, v7, rfl, hb7, g7⟩; rw [SIhy.out]; obtain ⟨r7a, r7n, r7c, r7d, r7m, r7e, rfl, rfl⟩ := g7.sh; have G7 := Lib.hid (int_raw SIhy.out g7); clear g7; have HX7 : More ((w.alloc (.cells #[.int .i64 lx, .int .i64 ly, .int .i64 hx, .int .i64 hy] 86)).alloc (.cells #[.bool s.1.1, .slice sa sn sc, .slice sd sm se, .bool t.1.1, .slice ta tn tc, .slice td tm te] 89)) w7 := (Turns.more (by with_reducible repeat (first | exact Turns.refl _ _ | apply Turns.drew | apply Turns.drewN | apply Turns.alloc | refine Turns.via (by assumption) ?_))); have HB7 := HB _ HX7; have hz7 := More.size HX7; (try simp at hz7); have hb7 := hb7)
    refine hK.out _ _ ?_ (fun hHeld => ?_)
    · first | exact (by with_reducible repeat (first | exact Turns.refl _ _ | apply Turns.drew | apply Turns.drewN | apply Turns.alloc | refine Turns.setCell ?_ (by first | (left; simp; done) | (right; simp <;> omega)) _ | refine Turns.via (by assumption) ?_)) | exact (Turns.more (by with_reducible repeat (first | exact Turns.refl _ _ | apply Turns.drew | apply Turns.drewN | apply Turns.alloc | refine Turns.setCellR ?_ (by simp <;> omega) _ | refine Turns.via (by assumption) ?_)))
    clear hK K
    (try simp only [Act.put, List.setIfInBounds_toArray, List.set_cons_zero, List.set_cons_succ])
    refine wpAnyH_ready (rs := [35]) (by kernel_rfl) (by simp) ?_
    refine AllReadyH.cons (o := ⟨some 40, _, _, _, _, _⟩) rfl (fun K hK => ?_) AllReadyH.nil
    go_simp
    (go_at_call 98; (with_reducible refine (impl_ratCmpX t t.1.1 (.slice ta tn tc) (.slice td tm te) (encR (frInt hy)) s4 (.slice r7a r7n r7c) (.slice r7d r7m r7e) _ Kt.out KIhy.out (Ty.at_more Ht.out (Turns.more (by with_reducible repeat (first | exact Turns.refl _ _ | apply Turns.drew | apply Turns.drewN | apply Turns.alloc | refine Turns.via (by assumption) ?_)))) (Ty.at_more G7.out (Turns.more (by with_reducible repeat (first | exact Turns.refl _ _ | apply Turns.drew | apply Turns.drewN | apply Turns.alloc | refine Turns.via (by assumption) ?_))))).mono ?_); rintro e w8 ⟨rfl, hb8⟩; rw [F.out]; have HX8 : More ((w.alloc (.cells #[.int .i64 lx, .int .i64 ly, .int .i64 hx, .int .i64 hy] 86)).alloc (.cells #[.bool s.1.1, .slice sa sn sc, .slice sd sm se, .bool t.1.1, .slice ta tn tc, .slice td tm te] 89)) w8 := (Turns.more (by with_reducible repeat (first | exact Turns.refl _ _ | apply Turns.drew | apply Turns.drewN | apply Turns.alloc | refine Turns.via (by assumption) ?_))); have HB8 := HB _ HX8; have hz8 := More.size HX8; (try simp at hz8); have hb8 := hb8)
    refine hK.out _ _ ?_ (fun hHeld => ?_)
    · first | exact (by with_reducible repeat (first | exact Turns.refl _ _ | apply Turns.drew | apply Turns.drewN | apply Turns.alloc | refine Turns.setCell ?_ (by first | (left; simp; done) | (right; simp <;> omega)) _ | refine Turns.via (by assumption) ?_)) | exact (Turns.more (by with_reducible repeat (first | exact Turns.refl _ _ | apply Turns.drew | apply Turns.drewN | apply Turns.alloc | refine Turns.setCellR ?_ (by simp <;> omega) _ | refine Turns.via (by assumption) ?_)))
    clear hK K
    (try simp only [Act.put, List.setIfInBounds_toArray, List.set_cons_zero, List.set_cons_succ])
    refine tk (v := ?_) 36 ⟨some 41, _, _, _, _, _⟩ rfl ?_ ?_
    rotate_left 2
    · (intro w hSw; (try dsimp only at hSw); go_simp; (try with_reducible rfl))
    (try simp only [Act.put, List.setIfInBounds_toArray, List.set_cons_zero, List.set_cons_succ])
    refine tk (v := ?_) 37 ⟨some 42, _, _, _, _, _⟩ rfl ?_ ?_
    rotate_left 2
    · (intro w hSw; (try dsimp only at hSw); go_simp; (try with_reducible rfl))
    (try simp only [Act.put, List.setIfInBounds_toArray, List.set_cons_zero, List.set_cons_succ])
    refine tk (v := ?_) 38 ⟨some 4, _, _, _, _, _⟩ rfl ?_ ?_
    rotate_left 2
    · (intro w hSw; (try dsimp only at hSw); go_simp; (try with_reducible rfl))
    (try simp only [Act.put, List.setIfInBounds_toArray, List.set_cons_zero, List.set_cons_succ])
    refine wpAnyH_done (by kernel_rfl) ?_ _
    go_wp2_with fail
    go_ret
    exact ⟨ret_bool (by first | (simp [inBoxB, C.out, D.out, E.out, F.out]; done) | (simp [inBoxB, C.out, D.out, E.out, F.out] <;> omega)), (Turns.more (by with_reducible repeat (first | exact Turns.refl _ _ | apply Turns.drew | apply Turns.drewN | apply Turns.alloc | refine Turns.via (by assumption) ?_)))⟩
  have hFd : decide (f0 < 0) = true := decide_eq_true (by omega)
  have HX : More ((w.alloc (.cells #[.int .i64 lx, .int .i64 ly, .int .i64 hx, .int .i64 hy] 86)).alloc (.cells #[.bool s.1.1, .slice sa sn sc, .slice sd sm se, .bool t.1.1, .slice ta tn tc, .slice td tm te] 89)) ((w.alloc (.cells #[.int .i64 lx, .int .i64 ly, .int .i64 hx, .int .i64 hy] 86)).alloc (.cells #[.bool s.1.1, .slice sa sn sc, .slice sd sm se, .bool t.1.1, .slice ta tn tc, .slice td tm te] 89)) := More.refl _
  have HB : ∀ w', More ((w.alloc (.cells #[.int .i64 lx, .int .i64 ly, .int .i64 hx, .int .i64 hy] 86)).alloc (.cells #[.bool s.1.1, .slice sa sn sc, .slice sd sm se, .bool t.1.1, .slice ta tn tc, .slice td tm te] 89)) w' → w'.cell? ⟨w.heap.size, 0, none⟩ = some (.int .i64 lx) ∧ w'.cell? ⟨w.heap.size, 1, none⟩ = some (.int .i64 ly) ∧ w'.cell? ⟨w.heap.size, 2, none⟩ = some (.int .i64 hx) ∧ w'.cell? ⟨w.heap.size, 3, none⟩ = some (.int .i64 hy) ∧ (∀ j, w'.frozen? ⟨w.heap.size, j, none⟩ = false) ∧ w'.cell? ⟨w.heap.size + 1, 0, none⟩ = some (.bool s.1.1) ∧ w'.cell? ⟨w.heap.size + 1, 1, none⟩ = some (.slice sa sn sc) ∧ w'.cell? ⟨w.heap.size + 1, 2, none⟩ = some (.slice sd sm se) ∧ w'.cell? ⟨w.heap.size + 1, 3, none⟩ = some (.bool t.1.1) ∧ w'.cell? ⟨w.heap.size + 1, 4, none⟩ = some (.slice ta tn tc) ∧ w'.cell? ⟨w.heap.size + 1, 5, none⟩ = some (.slice td tm te) ∧ (∀ j, w'.frozen? ⟨w.heap.size + 1, j, none⟩ = false) := fun w' h => ⟨box_new (by simp) (More.un h) 0, box_new (by simp) (More.un h) 1, box_new (by simp) (More.un h) 2, box_new (by simp) (More.un h) 3, fun j => box_free (by simp) (More.un h) j, box_new (by simp) h 0, box_new (by simp) h 1, box_new (by simp) h 2, box_new (by simp) h 3, box_new (by simp) h 4, box_new (by simp) h 5, fun j => box_free (by simp) h j⟩
  have HC := fun (w' : World) (h : Turns [] ((w.alloc (.cells #[.int .i64 lx, .int .i64 ly, .int .i64 hx, .int .i64 hy] 86)).alloc (.cells #[.bool s.1.1, .slice sa sn sc, .slice sd sm se, .bool t.1.1, .slice ta tn tc, .slice td tm te] 89)) w') => HB w' (Turns.more h)
  go_enter Try.func109, Try.ntmps109
  go_wp2_with fail
  refine wp_region_held_drew (S := (fun w' => Turns [] ((w.alloc (.cells #[.int .i64 lx, .int .i64 ly, .int .i64 hx, .int .i64 hy] 86)).alloc (.cells #[.bool s.1.1, .slice sa sn sc, .slice sd sm se, .bool t.1.1, .slice ta tn tc, .slice td tm te] 89)) w')) (by kernel_rfl) ?_ (fun hHeld => ?_)
  · first | exact (by with_reducible repeat (first | exact Turns.refl _ _ | apply Turns.drew | apply Turns.drewN | apply Turns.alloc | refine Turns.setCell ?_ (by first | (left; simp; done) | (right; simp <;> omega)) _ | refine Turns.via (by assumption) ?_)) | exact (Turns.more (by with_reducible repeat (first | exact Turns.refl _ _ | apply Turns.drew | apply Turns.drewN | apply Turns.alloc | refine Turns.setCellR ?_ (by simp <;> omega) _ | refine Turns.via (by assumption) ?_)))
  refine tk (v := ?_) 0 ⟨some 5, _, _, _, _, _⟩ rfl ?_ ?_
  rotate_left 2
  · (intro w hSw; (try dsimp only at hSw); go_simp; (try with_reducible rfl))
  (try simp only [Act.put, List.setIfInBounds_toArray, List.set_cons_zero, List.set_cons_succ])
  refine tk (v := ?_) 1 ⟨some 6, _, _, _, _, _⟩ rfl ?_ ?_
  rotate_left 2
  · (intro w hSw; (try dsimp only at hSw); go_simp; (try with_reducible rfl))
  (try simp only [Act.put, List.setIfInBounds_toArray, List.set_cons_zero, List.set_cons_succ])
  refine tk (v := ?_) 2 ⟨some 7, _, _, _, _, _⟩ rfl ?_ ?_
  rotate_left 2
  · (intro w hSw; (try dsimp only at hSw); go_simp; (try with_reducible rfl))
  (try simp only [Act.put, List.setIfInBounds_toArray, List.set_cons_zero, List.set_cons_succ])
  refine tk (v := ?_) 3 ⟨some 8, _, _, _, _, _⟩ rfl ?_ ?_
  rotate_left 2
  · (intro w hSw; (try dsimp only at hSw); go_simp; (try with_reducible rfl))
  (try simp only [Act.put, List.setIfInBounds_toArray, List.set_cons_zero, List.set_cons_succ])
  refine tk (v := ?_) 4 ⟨some 9, _, _, _, _, _⟩ rfl ?_ ?_
  rotate_left 2
  · (intro w hSw; (try dsimp only at hSw); go_simp; (try with_reducible rfl))
  (try simp only [Act.put, List.setIfInBounds_toArray, List.set_cons_zero, List.set_cons_succ])
  refine wpAnyH_ready (rs := [5]) (by kernel_rfl) (by simp) ?_
  refine AllReadyH.cons (o := ⟨some 10, _, _, _, _, _⟩) rfl (fun K hK => ?_) AllReadyH.nil
  go_simp
  (go_at_call 86; (with_reducible refine (impl_ratInt lx _ HIlx.out).mono ?_); rintro e w1 ⟨u1, v1, rfl, hb1, g1⟩; rw [SIlx.out]; obtain ⟨r1a, r1n, r1c, r1d, r1m, r1e, rfl, rfl⟩ := g1.sh; have G1 := Lib.hid (int_raw SIlx.out g1); clear g1; have HX1 : More ((w.alloc (.cells #[.int .i64 lx, .int .i64 ly, .int .i64 hx, .int .i64 hy] 86)).alloc (.cells #[.bool s.1.1, .slice sa sn sc, .slice sd sm se, .bool t.1.1, .slice ta tn tc, .slice td tm te] 89)) w1 := (Turns.more (by with_reducible repeat (first | exact Turns.refl _ _ | apply Turns.drew | apply Turns.drewN | apply Turns.alloc | refine Turns.via (by assumption) ?_))); have HB1 := HB _ HX1; have hz1 := More.size HX1; (try simp at hz1); have hb1 := hb1)
  refine hK.out _ _ ?_ (fun hHeld => ?_)
  · first | exact (by with_reducible repeat (first | exact Turns.refl _ _ | apply Turns.drew | apply Turns.drewN | apply Turns.alloc | refine Turns.setCell ?_ (by first | (left; simp; done) | (right; simp <;> omega)) _ | refine Turns.via (by assumption) ?_)) | exact (Turns.more (by with_reducible repeat (first | exact Turns.refl _ _ | apply Turns.drew | apply Turns.drewN | apply Turns.alloc | refine Turns.setCellR ?_ (by simp <;> omega) _ | refine Turns.via (by assumption) ?_)))
  clear hK K
  (try simp only [Act.put, List.setIfInBounds_toArray, List.set_cons_zero, List.set_cons_succ])
  refine wpAnyH_ready (rs := [6]) (by kernel_rfl) (by simp) ?_
  refine AllReadyH.cons (o := ⟨some 11, _, _, _, _, _⟩) rfl (fun K hK => ?_) AllReadyH.nil
  go_simp
  (go_at_call 98; (with_reducible refine (impl_ratCmpX s s.1.1 (.slice sa sn sc) (.slice sd sm se) (encR (frInt lx)) s1 (.slice r1a r1n r1c) (.slice r1d r1m r1e) _ Ks.out KIlx.out (Ty.at_more Hs.out (Turns.more (by with_reducible repeat (first | exact Turns.refl _ _ | apply Turns.drew | apply Turns.drewN | apply Turns.alloc | refine Turns.via (by assumption) ?_)))) (Ty.at_more G1.out (Turns.more (by with_reducible repeat (first | exact Turns.refl _ _ | apply Turns.drew | apply Turns.drewN | apply Turns.alloc | refine Turns.via (by assumption) ?_))))).mono ?_); rintro e w2 ⟨rfl, hb2⟩; rw [C.out]; have HX2 : More ((w.alloc (.cells #[.int .i64 lx, .int .i64 ly, .int .i64 hx, .int .i64 hy] 86)).alloc (.cells #[.bool s.1.1, .slice sa sn sc, .slice sd sm se, .bool t.1.1, .slice ta tn tc, .slice td tm te] 89)) w2 := (Turns.more (by with_reducible repeat (first | exact Turns.refl _ _ | apply Turns.drew | apply Turns.drewN | apply Turns.alloc | refine Turns.via (by assumption) ?_))); have HB2 := HB _ HX2; have hz2 := More.size HX2; (try simp at hz2); have hb2 := hb2)
  refine hK.out _ _ ?_ (fun hHeld => ?_)
  · first | exact (by with_reducible repeat (first | exact Turns.refl _ _ | apply Turns.drew | apply Turns.drewN | apply Turns.alloc | refine Turns.setCell ?_ (by first | (left; simp; done) | (right; simp <;> omega)) _ | refine Turns.via (by assumption) ?_)) | exact (Turns.more (by with_reducible repeat (first | exact Turns.refl _ _ | apply Turns.drew | apply Turns.drewN | apply Turns.alloc | refine Turns.setCellR ?_ (by simp <;> omega) _ | refine Turns.via (by assumption) ?_)))
  clear hK K
  (try simp only [Act.put, List.setIfInBounds_toArray, List.set_cons_zero, List.set_cons_succ])
  refine tk (v := ?_) 7 ⟨some 12, _, _, _, _, _⟩ rfl ?_ ?_
  rotate_left 2
  · (intro w hSw; (try dsimp only at hSw); go_simp; (try with_reducible rfl))
  (try simp only [Act.put, List.setIfInBounds_toArray, List.set_cons_zero, List.set_cons_succ])
  refine tk (v := ?_) 8 ⟨some 13, _, _, _, _, _⟩ rfl ?_ ?_
  rotate_left 2
  · (intro w hSw; (try dsimp only at hSw); go_simp; (try with_reducible rfl))
  (try simp only [Act.put, List.setIfInBounds_toArray, List.set_cons_zero, List.set_cons_succ])
  refine tk (v := ?_) 9 ⟨some 14, _, _, _, _, _⟩ rfl ?_ ?_
  rotate_left 2
  · (intro w hSw; (try dsimp only at hSw); go_simp; (try with_reducible rfl))
  (try simp only [Act.put, List.setIfInBounds_toArray, List.set_cons_zero, List.set_cons_succ])
  refine tk (v := ?_) 10 ⟨some 15, _, _, _, _, _⟩ rfl ?_ ?_
  rotate_left 2
  · (intro w hSw; (try dsimp only at hSw); go_simp; (try with_reducible rfl))
  (try simp only [Act.put, List.setIfInBounds_toArray, List.set_cons_zero, List.set_cons_succ])
  refine tk (v := ?_) 11 ⟨some 16, _, _, _, _, _⟩ rfl ?_ ?_
  rotate_left 2
  · (intro w hSw; (try dsimp only at hSw); go_simp; (try with_reducible rfl))
  (try simp only [Act.put, List.setIfInBounds_toArray, List.set_cons_zero, List.set_cons_succ])
  refine tk (v := ?_) 12 ⟨some 17, _, _, _, _, _⟩ rfl ?_ ?_
  rotate_left 2
  · (intro w hSw; (try dsimp only at hSw); go_simp; (try with_reducible rfl))
  (try simp only [Act.put, List.setIfInBounds_toArray, List.set_cons_zero, List.set_cons_succ])
  refine tk (v := ?_) 13 ⟨some 18, _, _, _, _, _⟩ rfl ?_ ?_
  rotate_left 2
  · (intro w hSw; (try dsimp only at hSw); go_simp; (try with_reducible rfl))
  (try simp only [Act.put, List.setIfInBounds_toArray, List.set_cons_zero, List.set_cons_succ])
  refine wpAnyH_ready (rs := [14]) (by kernel_rfl) (by simp) ?_
  refine AllReadyH.cons (o := ⟨some 19, _, _, _, _, _⟩) rfl (fun K hK => ?_) AllReadyH.nil
  go_simp
  (go_at_call 86; (with_reducible refine (impl_ratInt hx _ HIhx.out).mono ?_); rintro e w3 ⟨u3, v3, rfl, hb3, g3⟩; rw [SIhx.out]; obtain ⟨r3a, r3n, r3c, r3d, r3m, r3e, rfl, rfl⟩ := g3.sh; have G3 := Lib.hid (int_raw SIhx.out g3); clear g3; have HX3 : More ((w.alloc (.cells #[.int .i64 lx, .int .i64 ly, .int .i64 hx, .int .i64 hy] 86)).alloc (.cells #[.bool s.1.1, .slice sa sn sc, .slice sd sm se, .bool t.1.1, .slice ta tn tc, .slice td tm te] 89)) w3 := (Turns.more (by with_reducible repeat (first | exact Turns.refl _ _ | apply Turns.drew | apply Turns.drewN | apply Turns.alloc | refine Turns.via (by assumption) ?_))); have HB3 := HB _ HX3; have hz3 := More.size HX3; (try simp at hz3); have hb3 := hb3)
  refine hK.out _ _ ?_ (fun hHeld => ?_)
  · first | exact (by with_reducible repeat (first | exact Turns.refl _ _ | apply Turns.drew | apply Turns.drewN | apply Turns.alloc | refine Turns.setCell ?_ (by first | (left; simp; done) | (right; simp <;> omega)) _ | refine Turns.via (by assumption) ?_)) | exact (Turns.more (by with_reducible repeat (first | exact Turns.refl _ _ | apply Turns.drew | apply Turns.drewN | apply Turns.alloc | refine Turns.setCellR ?_ (by simp <;> omega) _ | refine Turns.via (by assumption) ?_)))
  clear hK K
  (try simp only [Act.put, List.setIfInBounds_toArray, List.set_cons_zero, List.set_cons_succ])
  refine wpAnyH_ready (rs := [15]) (by kernel_rfl) (by simp) ?_
  refine AllReadyH.cons (o := ⟨some 20, _, _, _, _, _⟩) rfl (fun K hK => ?_) AllReadyH.nil
  go_simp
  (go_at_call 98; (with_reducible refine (impl_ratCmpX s s.1.1 (.slice sa sn sc) (.slice sd sm se) (encR (frInt hx)) s2 (.slice r3a r3n r3c) (.slice r3d r3m r3e) _ Ks.out KIhx.out (Ty.at_more Hs.out (Turns.more (by with_reducible repeat (first | exact Turns.refl _ _ | apply Turns.drew | apply Turns.drewN | apply Turns.alloc | refine Turns.via (by assumption) ?_)))) (Ty.at_more G3.out (Turns.more (by with_reducible repeat (first | exact Turns.refl _ _ | apply Turns.drew | apply Turns.drewN | apply Turns.alloc | refine Turns.via (by assumption) ?_))))).mono ?_); rintro e w4 ⟨rfl, hb4⟩; rw [D.out]; have HX4 : More ((w.alloc (.cells #[.int .i64 lx, .int .i64 ly, .int .i64 hx, .int .i64 hy] 86)).alloc (.cells #[.bool s.1.1, .slice sa sn sc, .slice sd sm se, .bool t.1.1, .slice ta tn tc, .slice td tm te] 89)) w4 := (Turns.more (by with_reducible repeat (first | exact Turns.refl _ _ | apply Turns.drew | apply Turns.drewN | apply Turns.alloc | refine Turns.via (by assumption) ?_))); have HB4 := HB _ HX4; have hz4 := More.size HX4; (try simp at hz4); have hb4 := hb4)
  refine hK.out _ _ ?_ (fun hHeld => ?_)
  · first | exact (by with_reducible repeat (first | exact Turns.refl _ _ | apply Turns.drew | apply Turns.drewN | apply Turns.alloc | refine Turns.setCell ?_ (by first | (left; simp; done) | (right; simp <;> omega)) _ | refine Turns.via (by assumption) ?_)) | exact (Turns.more (by with_reducible repeat (first | exact Turns.refl _ _ | apply Turns.drew | apply Turns.drewN | apply Turns.alloc | refine Turns.setCellR ?_ (by simp <;> omega) _ | refine Turns.via (by assumption) ?_)))
  clear hK K
  (try simp only [Act.put, List.setIfInBounds_toArray, List.set_cons_zero, List.set_cons_succ])
  refine tk (v := ?_) 16 ⟨some 21, _, _, _, _, _⟩ rfl ?_ ?_
  rotate_left 2
  · (intro w hSw; (try dsimp only at hSw); go_simp; (try with_reducible rfl))
  (try simp only [Act.put, List.setIfInBounds_toArray, List.set_cons_zero, List.set_cons_succ])
  refine tk (v := ?_) 17 ⟨some 22, _, _, _, _, _⟩ rfl ?_ ?_
  rotate_left 2
  · (intro w hSw; (try dsimp only at hSw); go_simp; (try with_reducible rfl))
  (try simp only [Act.put, List.setIfInBounds_toArray, List.set_cons_zero, List.set_cons_succ])
  refine tk (v := ?_) 18 ⟨some 23, _, _, _, _, _⟩ rfl ?_ ?_
  rotate_left 2
  · (intro w hSw; (try dsimp only at hSw); go_simp; (try with_reducible rfl))
  (try simp only [Act.put, List.setIfInBounds_toArray, List.set_cons_zero, List.set_cons_succ])
  refine tk (v := ?_) 19 ⟨some 24, _, _, _, _, _⟩ rfl ?_ ?_
  rotate_left 2
  · (intro w hSw; (try dsimp only at hSw); go_simp; (try with_reducible rfl))
  (try simp only [Act.put, List.setIfInBounds_toArray, List.set_cons_zero, List.set_cons_succ])
  refine tk (v := ?_) 20 ⟨some 25, _, _, _, _, _⟩ rfl ?_ ?_
  rotate_left 2
  · (intro w hSw; (try dsimp only at hSw); go_simp; (try with_reducible rfl))
  (try simp only [Act.put, List.setIfInBounds_toArray, List.set_cons_zero, List.set_cons_succ])
  refine tk (v := ?_) 21 ⟨some 26, _, _, _, _, _⟩ rfl ?_ ?_
  rotate_left 2
  · (intro w hSw; (try dsimp only at hSw); go_simp; (try with_reducible rfl))
  (try simp only [Act.put, List.setIfInBounds_toArray, List.set_cons_zero, List.set_cons_succ])
  refine tk (v := ?_) 22 ⟨some 27, _, _, _, _, _⟩ rfl ?_ ?_
  rotate_left 2
  · (intro w hSw; (try dsimp only at hSw); go_simp; (try with_reducible rfl))
  (try simp only [Act.put, List.setIfInBounds_toArray, List.set_cons_zero, List.set_cons_succ])
  refine tk (v := ?_) 23 ⟨some 28, _, _, _, _, _⟩ rfl ?_ ?_
  rotate_left 2
  · (intro w hSw; (try dsimp only at hSw); go_simp; (try with_reducible rfl))
  (try simp only [Act.put, List.setIfInBounds_toArray, List.set_cons_zero, List.set_cons_succ])
  refine wpAnyH_ready (rs := [24]) (by kernel_rfl) (by simp) ?_
  refine AllReadyH.cons (o := ⟨some 29, _, _, _, _, _⟩) rfl (fun K hK => ?_) AllReadyH.nil
  go_simp
  (go_at_call 86; (with_reducible refine (impl_ratInt ly _ HIly.out).mono ?_); rintro e w5 ⟨u5, v5, rfl, hb5, g5⟩; rw [SIly.out]; obtain ⟨r5a, r5n, r5c, r5d, r5m, r5e, rfl, rfl⟩ := g5.sh; have G5 := Lib.hid (int_raw SIly.out g5); clear g5; have HX5 : More ((w.alloc (.cells #[.int .i64 lx, .int .i64 ly, .int .i64 hx, .int .i64 hy] 86)).alloc (.cells #[.bool s.1.1, .slice sa sn sc, .slice sd sm se, .bool t.1.1, .slice ta tn tc, .slice td tm te] 89)) w5 := (Turns.more (by with_reducible repeat (first | exact Turns.refl _ _ | apply Turns.drew | apply Turns.drewN | apply Turns.alloc | refine Turns.via (by assumption) ?_))); have HB5 := HB _ HX5; have hz5 := More.size HX5; (try simp at hz5); have hb5 := hb5)
  refine hK.out _ _ ?_ (fun hHeld => ?_)
  · first | exact (by with_reducible repeat (first | exact Turns.refl _ _ | apply Turns.drew | apply Turns.drewN | apply Turns.alloc | refine Turns.setCell ?_ (by first | (left; simp; done) | (right; simp <;> omega)) _ | refine Turns.via (by assumption) ?_)) | exact (Turns.more (by with_reducible repeat (first | exact Turns.refl _ _ | apply Turns.drew | apply Turns.drewN | apply Turns.alloc | refine Turns.setCellR ?_ (by simp <;> omega) _ | refine Turns.via (by assumption) ?_)))
  clear hK K
  (try simp only [Act.put, List.setIfInBounds_toArray, List.set_cons_zero, List.set_cons_succ])
  refine wpAnyH_ready (rs := [25]) (by kernel_rfl) (by simp) ?_
  refine AllReadyH.cons (o := ⟨some 30, _, _, _, _, _⟩) rfl (fun K hK => ?_) AllReadyH.nil
  go_simp
  (go_at_call 98; (with_reducible refine (impl_ratCmpX t t.1.1 (.slice ta tn tc) (.slice td tm te) (encR (frInt ly)) s3 (.slice r5a r5n r5c) (.slice r5d r5m r5e) _ Kt.out KIly.out (Ty.at_more Ht.out (Turns.more (by with_reducible repeat (first | exact Turns.refl _ _ | apply Turns.drew | apply Turns.drewN | apply Turns.alloc | refine Turns.via (by assumption) ?_)))) (Ty.at_more G5.out (Turns.more (by with_reducible repeat (first | exact Turns.refl _ _ | apply Turns.drew | apply Turns.drewN | apply Turns.alloc | refine Turns.via (by assumption) ?_))))).mono ?_); rintro e w6 ⟨rfl, hb6⟩; rw [E.out]; have HX6 : More ((w.alloc (.cells #[.int .i64 lx, .int .i64 ly, .int .i64 hx, .int .i64 hy] 86)).alloc (.cells #[.bool s.1.1, .slice sa sn sc, .slice sd sm se, .bool t.1.1, .slice ta tn tc, .slice td tm te] 89)) w6 := (Turns.more (by with_reducible repeat (first | exact Turns.refl _ _ | apply Turns.drew | apply Turns.drewN | apply Turns.alloc | refine Turns.via (by assumption) ?_))); have HB6 := HB _ HX6; have hz6 := More.size HX6; (try simp at hz6); have hb6 := hb6)
  refine hK.out _ _ ?_ (fun hHeld => ?_)
  · first | exact (by with_reducible repeat (first | exact Turns.refl _ _ | apply Turns.drew | apply Turns.drewN | apply Turns.alloc | refine Turns.setCell ?_ (by first | (left; simp; done) | (right; simp <;> omega)) _ | refine Turns.via (by assumption) ?_)) | exact (Turns.more (by with_reducible repeat (first | exact Turns.refl _ _ | apply Turns.drew | apply Turns.drewN | apply Turns.alloc | refine Turns.setCellR ?_ (by simp <;> omega) _ | refine Turns.via (by assumption) ?_)))
  clear hK K
  (try simp only [Act.put, List.setIfInBounds_toArray, List.set_cons_zero, List.set_cons_succ])
  refine tk (v := ?_) 26 ⟨some 31, _, _, _, _, _⟩ rfl ?_ ?_
  rotate_left 2
  · (intro w hSw; (try dsimp only at hSw); go_simp; (try with_reducible rfl))
  (try simp only [Act.put, List.setIfInBounds_toArray, List.set_cons_zero, List.set_cons_succ])
  refine tk (v := ?_) 27 ⟨some 32, _, _, _, _, _⟩ rfl ?_ ?_
  rotate_left 2
  · (intro w hSw; (try dsimp only at hSw); go_simp; (try with_reducible rfl))
  (try simp only [Act.put, List.setIfInBounds_toArray, List.set_cons_zero, List.set_cons_succ])
  refine tk (v := ?_) 28 ⟨some 33, _, _, _, _, _⟩ rfl ?_ ?_
  rotate_left 2
  · (intro w hSw; (try dsimp only at hSw); go_simp; (try with_reducible rfl))
  (try simp only [Act.put, List.setIfInBounds_toArray, List.set_cons_zero, List.set_cons_succ])
  refine tk (v := ?_) 29 ⟨some 34, _, _, _, _, _⟩ rfl ?_ ?_
  rotate_left 2
  · (intro w hSw; (try dsimp only at hSw); go_simp; (try with_reducible rfl))
  (try simp only [Act.put, List.setIfInBounds_toArray, List.set_cons_zero, List.set_cons_succ])
  refine tk (v := ?_) 30 ⟨some 35, _, _, _, _, _⟩ rfl ?_ ?_
  rotate_left 2
  · (intro w hSw; (try dsimp only at hSw); go_simp; (try with_reducible rfl))
  (try simp only [Act.put, List.setIfInBounds_toArray, List.set_cons_zero, List.set_cons_succ])
  refine tk (v := ?_) 31 ⟨some 36, _, _, _, _, _⟩ rfl ?_ ?_
  rotate_left 2
  · (intro w hSw; (try dsimp only at hSw); go_simp; (try with_reducible rfl))
  (try simp only [Act.put, List.setIfInBounds_toArray, List.set_cons_zero, List.set_cons_succ])
  refine tk (v := ?_) 32 ⟨some 37, _, _, _, _, _⟩ rfl ?_ ?_
  rotate_left 2
  · (intro w hSw; (try dsimp only at hSw); go_simp; (try with_reducible rfl))
  (try simp only [Act.put, List.setIfInBounds_toArray, List.set_cons_zero, List.set_cons_succ])
  refine tk (v := ?_) 33 ⟨some 38, _, _, _, _, _⟩ rfl ?_ ?_
  rotate_left 2
  · (intro w hSw; (try dsimp only at hSw); go_simp; (try with_reducible rfl))
  (try simp only [Act.put, List.setIfInBounds_toArray, List.set_cons_zero, List.set_cons_succ])
  refine wpAnyH_ready (rs := [34]) (by kernel_rfl) (by simp) ?_
  refine AllReadyH.cons (o := ⟨some 39, _, _, _, _, _⟩) rfl (fun K hK => ?_) AllReadyH.nil
  go_simp
  (go_at_call 86; (with_reducible refine (impl_ratInt hy _ HIhy.out).mono ?_); rintro e w7 ⟨u7, v7, rfl, hb7, g7⟩; rw [SIhy.out]; obtain ⟨r7a, r7n, r7c, r7d, r7m, r7e, rfl, rfl⟩ := g7.sh; have G7 := Lib.hid (int_raw SIhy.out g7); clear g7; have HX7 : More ((w.alloc (.cells #[.int .i64 lx, .int .i64 ly, .int .i64 hx, .int .i64 hy] 86)).alloc (.cells #[.bool s.1.1, .slice sa sn sc, .slice sd sm se, .bool t.1.1, .slice ta tn tc, .slice td tm te] 89)) w7 := (Turns.more (by with_reducible repeat (first | exact Turns.refl _ _ | apply Turns.drew | apply Turns.drewN | apply Turns.alloc | refine Turns.via (by assumption) ?_))); have HB7 := HB _ HX7; have hz7 := More.size HX7; (try simp at hz7); have hb7 := hb7)
  refine hK.out _ _ ?_ (fun hHeld => ?_)
  · first | exact (by with_reducible repeat (first | exact Turns.refl _ _ | apply Turns.drew | apply Turns.drewN | apply Turns.alloc | refine Turns.setCell ?_ (by first | (left; simp; done) | (right; simp <;> omega)) _ | refine Turns.via (by assumption) ?_)) | exact (Turns.more (by with_reducible repeat (first | exact Turns.refl _ _ | apply Turns.drew | apply Turns.drewN | apply Turns.alloc | refine Turns.setCellR ?_ (by simp <;> omega) _ | refine Turns.via (by assumption) ?_)))
  clear hK K
  (try simp only [Act.put, List.setIfInBounds_toArray, List.set_cons_zero, List.set_cons_succ])
  refine wpAnyH_ready (rs := [35]) (by kernel_rfl) (by simp) ?_
  refine AllReadyH.cons (o := ⟨some 40, _, _, _, _, _⟩) rfl (fun K hK => ?_) AllReadyH.nil
  go_simp
  (go_at_call 98; (with_reducible refine (impl_ratCmpX t t.1.1 (.slice ta tn tc) (.slice td tm te) (encR (frInt hy)) s4 (.slice r7a r7n r7c) (.slice r7d r7m r7e) _ Kt.out KIhy.out (Ty.at_more Ht.out (Turns.more (by with_reducible repeat (first | exact Turns.refl _ _ | apply Turns.drew | apply Turns.drewN | apply Turns.alloc | refine Turns.via (by assumption) ?_)))) (Ty.at_more G7.out (Turns.more (by with_reducible repeat (first | exact Turns.refl _ _ | apply Turns.drew | apply Turns.drewN | apply Turns.alloc | refine Turns.via (by assumption) ?_))))).mono ?_); rintro e w8 ⟨rfl, hb8⟩; rw [F.out]; have HX8 : More ((w.alloc (.cells #[.int .i64 lx, .int .i64 ly, .int .i64 hx, .int .i64 hy] 86)).alloc (.cells #[.bool s.1.1, .slice sa sn sc, .slice sd sm se, .bool t.1.1, .slice ta tn tc, .slice td tm te] 89)) w8 := (Turns.more (by with_reducible repeat (first | exact Turns.refl _ _ | apply Turns.drew | apply Turns.drewN | apply Turns.alloc | refine Turns.via (by assumption) ?_))); have HB8 := HB _ HX8; have hz8 := More.size HX8; (try simp at hz8); have hb8 := hb8)
  refine hK.out _ _ ?_ (fun hHeld => ?_)
  · first | exact (by with_reducible repeat (first | exact Turns.refl _ _ | apply Turns.drew | apply Turns.drewN | apply Turns.alloc | refine Turns.setCell ?_ (by first | (left; simp; done) | (right; simp <;> omega)) _ | refine Turns.via (by assumption) ?_)) | exact (Turns.more (by with_reducible repeat (first | exact Turns.refl _ _ | apply Turns.drew | apply Turns.drewN | apply Turns.alloc | refine Turns.setCellR ?_ (by simp <;> omega) _ | refine Turns.via (by assumption) ?_)))
  clear hK K
  (try simp only [Act.put, List.setIfInBounds_toArray, List.set_cons_zero, List.set_cons_succ])
  refine tk (v := ?_) 36 ⟨some 41, _, _, _, _, _⟩ rfl ?_ ?_
  rotate_left 2
  · (intro w hSw; (try dsimp only at hSw); go_simp; (try with_reducible rfl))
  (try simp only [Act.put, List.setIfInBounds_toArray, List.set_cons_zero, List.set_cons_succ])
  refine tk (v := ?_) 37 ⟨some 42, _, _, _, _, _⟩ rfl ?_ ?_
  rotate_left 2
  · (intro w hSw; (try dsimp only at hSw); go_simp; (try with_reducible rfl))
  (try simp only [Act.put, List.setIfInBounds_toArray, List.set_cons_zero, List.set_cons_succ])
  refine tk (v := ?_) 38 ⟨some 4, _, _, _, _, _⟩ rfl ?_ ?_
  rotate_left 2
  · (intro w hSw; (try dsimp only at hSw); go_simp; (try with_reducible rfl))
  (try simp only [Act.put, List.setIfInBounds_toArray, List.set_cons_zero, List.set_cons_succ])
  refine wpAnyH_done (by kernel_rfl) ?_ _
  go_wp2_with fail
  go_ret
  exact ⟨ret_bool (by first | (simp [inBoxB, C.out, D.out, E.out, F.out]; done) | (simp [inBoxB, C.out, D.out, E.out, F.out] <;> omega)), (Turns.more (by with_reducible repeat (first | exact Turns.refl _ _ | apply Turns.drew | apply Turns.drewN | apply Turns.alloc | refine Turns.via (by assumption) ?_)))⟩
set_option maxRecDepth 8000 in
set_option maxHeartbeats 12800000 in
theorem impl_InBox (lx ly hx hy : Int) (cs1 : List Value) (s t : QR) (w : World) (i1 : In64 lx) (i2 : In64 ly) (i3 : In64 hx) (i4 : In64 hy) (hv1 : tPoint.at w cs1 (s, t)) (hw1 : wPoint (s, t) ≤ 1048576) :
    Calls Try.prog 53 #[.agg #[.int .i64 lx, .int .i64 ly, .int .i64 hx, .int .i64 hy], .agg cs1.toArray] w fun e w' => e = .returned (.bool (inBoxB ((lx, ly), (hx, hy)) (s, t))) ∧ More w w' := by
  have HIlx := Lib.hid i1; have HIly := Lib.hid i2; have HIhx := Lib.hid i3; have HIhy := Lib.hid i4; clear i1 i2 i3 i4
  obtain ⟨k0, d0, rfl, f0, e0⟩ := at_prod hv1
  have f1 := e0; clear e0
  have f0 : tRat.at w _ s := f0
  obtain ⟨sa, sn, sc, sd, sm, se, rfl⟩ := sh_Rat f0
  have Hs := Lib.hid f0; clear f0
  try clear f0
  have Ws : Hid (wRat s ≤ 1048576) := Lib.hid (by have h := hw1; unfold wPoint at h; dsimp only at h; omega)
  have f1 : tRat.at w _ t := f1
  obtain ⟨ta, tn, tc, td, tm, te, rfl⟩ := sh_Rat f1
  have Ht := Lib.hid f1; clear f1
  try clear f1
  have Wt : Hid (wRat t ≤ 1048576) := Lib.hid (by have h := hw1; unfold wPoint at h; dsimp only at h; omega)
  try clear e0 e1
  have HV1 : Hid (tPoint.at w [.bool s.1.1, .slice sa sn sc, .slice sd sm se, .bool t.1.1, .slice ta tn tc, .slice td tm te] (s, t)) := Lib.hid hv1; have HW1 := Lib.hid hw1; clear hv1 hw1
  rw [← inBox_and]
  show Calls Try.prog 53 #[.agg #[.int .i64 lx, .int .i64 ly, .int .i64 hx, .int .i64 hy], .agg #[.bool s.1.1, .slice sa sn sc, .slice sd sm se, .bool t.1.1, .slice ta tn tc, .slice td tm te]] w _
  rcases Bool.eq_false_or_eq_true ([((s, t) : QP)].all pointB) with KPLk | KPLk
  rotate_left
  · have KPL := Lib.hid KPLk; have KP : Hid (pointB (s, t) = false) := Lib.hid (by simpa using KPLk); clear KPLk
    have HX : More ((w.alloc (.cells #[.int .i64 lx, .int .i64 ly, .int .i64 hx, .int .i64 hy] 86)).alloc (.cells #[.bool s.1.1, .slice sa sn sc, .slice sd sm se, .bool t.1.1, .slice ta tn tc, .slice td tm te] 89)) ((w.alloc (.cells #[.int .i64 lx, .int .i64 ly, .int .i64 hx, .int .i64 hy] 86)).alloc (.cells #[.bool s.1.1, .slice sa sn sc, .slice sd sm se, .bool t.1.1, .slice ta tn tc, .slice td tm te] 89)) := More.refl _
    have HB : ∀ w', More ((w.alloc (.cells #[.int .i64 lx, .int .i64 ly, .int .i64 hx, .int .i64 hy] 86)).alloc (.cells #[.bool s.1.1, .slice sa sn sc, .slice sd sm se, .bool t.1.1, .slice ta tn tc, .slice td tm te] 89)) w' → w'.cell? ⟨w.heap.size, 0, none⟩ = some (.int .i64 lx) ∧ w'.cell? ⟨w.heap.size, 1, none⟩ = some (.int .i64 ly) ∧ w'.cell? ⟨w.heap.size, 2, none⟩ = some (.int .i64 hx) ∧ w'.cell? ⟨w.heap.size, 3, none⟩ = some (.int .i64 hy) ∧ (∀ j, w'.frozen? ⟨w.heap.size, j, none⟩ = false) ∧ w'.cell? ⟨w.heap.size + 1, 0, none⟩ = some (.bool s.1.1) ∧ w'.cell? ⟨w.heap.size + 1, 1, none⟩ = some (.slice sa sn sc) ∧ w'.cell? ⟨w.heap.size + 1, 2, none⟩ = some (.slice sd sm se) ∧ w'.cell? ⟨w.heap.size + 1, 3, none⟩ = some (.bool t.1.1) ∧ w'.cell? ⟨w.heap.size + 1, 4, none⟩ = some (.slice ta tn tc) ∧ w'.cell? ⟨w.heap.size + 1, 5, none⟩ = some (.slice td tm te) ∧ (∀ j, w'.frozen? ⟨w.heap.size + 1, j, none⟩ = false) := fun w' h => ⟨box_new (by simp) (More.un h) 0, box_new (by simp) (More.un h) 1, box_new (by simp) (More.un h) 2, box_new (by simp) (More.un h) 3, fun j => box_free (by simp) (More.un h) j, box_new (by simp) h 0, box_new (by simp) h 1, box_new (by simp) h 2, box_new (by simp) h 3, box_new (by simp) h 4, box_new (by simp) h 5, fun j => box_free (by simp) h j⟩
    have HC := fun (w' : World) (h : Turns [] ((w.alloc (.cells #[.int .i64 lx, .int .i64 ly, .int .i64 hx, .int .i64 hy] 86)).alloc (.cells #[.bool s.1.1, .slice sa sn sc, .slice sd sm se, .bool t.1.1, .slice ta tn tc, .slice td tm te] 89)) w') => HB w' (Turns.more h)
    go_enter Try.func53, Try.ntmps53
    go_wp2_with (first | (go_at_call 108; refine (impl_arePoints _ [(s, t)] _ (lit_at (S := tPoint) (n := 1) [([.bool s.1.1, .slice sa sn sc, .slice sd sm se, .bool t.1.1, .slice ta tn tc, .slice td tm te], (s, t))] (by simp) rfl rfl (by decide) (by rintro p hp; simp only [List.mem_cons, List.not_mem_nil, or_false] at hp; rcases hp with rfl <;> first | exact ⟨rfl, (Ty.at_more HV1.out (Turns.more (by with_reducible repeat (first | exact Turns.refl _ _ | apply Turns.drew | apply Turns.drewN | apply Turns.alloc | refine Turns.via (by assumption) ?_))))⟩) : (tSlice tPoint).at _ [_] [(s, t)]) (by refine ⟨by simp, ?_⟩; intro x hx; simp only [List.mem_cons, List.not_mem_nil, or_false] at hx; rcases hx with rfl <;> first | exact HW1.out)).mono ?_; rintro e w1 ⟨rfl, hb1⟩; have HX1 : More ((w.alloc (.cells #[.int .i64 lx, .int .i64 ly, .int .i64 hx, .int .i64 hy] 86)).alloc (.cells #[.bool s.1.1, .slice sa sn sc, .slice sd sm se, .bool t.1.1, .slice ta tn tc, .slice td tm te] 89)) w1 := (Turns.more (by with_reducible repeat (first | exact Turns.refl _ _ | apply Turns.drew | apply Turns.drewN | apply Turns.alloc | refine Turns.via (by assumption) ?_))); have HB1 := HB _ HX1; have hz1 := More.size HX1; (try simp at hz1); have hb1 := hb1; rw [KPL.out]))
    skip
    go_ret
    exact ⟨ret_bool (by simp [KP.out]), (Turns.more (by with_reducible repeat (first | exact Turns.refl _ _ | apply Turns.drew | apply Turns.drewN | apply Turns.alloc | refine Turns.via (by assumption) ?_)))⟩
  have KPL := Lib.hid KPLk; have KP : Hid (pointB (s, t) = true) := Lib.hid (by simpa using KPLk); clear KPLk
  rcases Bool.eq_false_or_eq_true (inBoxB ((lx, ly), (hx, hy)) (s, t)) with KIk | KIk
  rotate_left
  · have KI := Lib.hid KIk; clear KIk
    have HX : More ((w.alloc (.cells #[.int .i64 lx, .int .i64 ly, .int .i64 hx, .int .i64 hy] 86)).alloc (.cells #[.bool s.1.1, .slice sa sn sc, .slice sd sm se, .bool t.1.1, .slice ta tn tc, .slice td tm te] 89)) ((w.alloc (.cells #[.int .i64 lx, .int .i64 ly, .int .i64 hx, .int .i64 hy] 86)).alloc (.cells #[.bool s.1.1, .slice sa sn sc, .slice sd sm se, .bool t.1.1, .slice ta tn tc, .slice td tm te] 89)) := More.refl _
    have HB : ∀ w', More ((w.alloc (.cells #[.int .i64 lx, .int .i64 ly, .int .i64 hx, .int .i64 hy] 86)).alloc (.cells #[.bool s.1.1, .slice sa sn sc, .slice sd sm se, .bool t.1.1, .slice ta tn tc, .slice td tm te] 89)) w' → w'.cell? ⟨w.heap.size, 0, none⟩ = some (.int .i64 lx) ∧ w'.cell? ⟨w.heap.size, 1, none⟩ = some (.int .i64 ly) ∧ w'.cell? ⟨w.heap.size, 2, none⟩ = some (.int .i64 hx) ∧ w'.cell? ⟨w.heap.size, 3, none⟩ = some (.int .i64 hy) ∧ (∀ j, w'.frozen? ⟨w.heap.size, j, none⟩ = false) ∧ w'.cell? ⟨w.heap.size + 1, 0, none⟩ = some (.bool s.1.1) ∧ w'.cell? ⟨w.heap.size + 1, 1, none⟩ = some (.slice sa sn sc) ∧ w'.cell? ⟨w.heap.size + 1, 2, none⟩ = some (.slice sd sm se) ∧ w'.cell? ⟨w.heap.size + 1, 3, none⟩ = some (.bool t.1.1) ∧ w'.cell? ⟨w.heap.size + 1, 4, none⟩ = some (.slice ta tn tc) ∧ w'.cell? ⟨w.heap.size + 1, 5, none⟩ = some (.slice td tm te) ∧ (∀ j, w'.frozen? ⟨w.heap.size + 1, j, none⟩ = false) := fun w' h => ⟨box_new (by simp) (More.un h) 0, box_new (by simp) (More.un h) 1, box_new (by simp) (More.un h) 2, box_new (by simp) (More.un h) 3, fun j => box_free (by simp) (More.un h) j, box_new (by simp) h 0, box_new (by simp) h 1, box_new (by simp) h 2, box_new (by simp) h 3, box_new (by simp) h 4, box_new (by simp) h 5, fun j => box_free (by simp) h j⟩
    have HC := fun (w' : World) (h : Turns [] ((w.alloc (.cells #[.int .i64 lx, .int .i64 ly, .int .i64 hx, .int .i64 hy] 86)).alloc (.cells #[.bool s.1.1, .slice sa sn sc, .slice sd sm se, .bool t.1.1, .slice ta tn tc, .slice td tm te] 89)) w') => HB w' (Turns.more h)
    go_enter Try.func53, Try.ntmps53
    go_wp2_with (first | (go_at_call 108; refine (impl_arePoints _ [(s, t)] _ (lit_at (S := tPoint) (n := 1) [([.bool s.1.1, .slice sa sn sc, .slice sd sm se, .bool t.1.1, .slice ta tn tc, .slice td tm te], (s, t))] (by simp) rfl rfl (by decide) (by rintro p hp; simp only [List.mem_cons, List.not_mem_nil, or_false] at hp; rcases hp with rfl <;> first | exact ⟨rfl, (Ty.at_more HV1.out (Turns.more (by with_reducible repeat (first | exact Turns.refl _ _ | apply Turns.drew | apply Turns.drewN | apply Turns.alloc | refine Turns.via (by assumption) ?_))))⟩) : (tSlice tPoint).at _ [_] [(s, t)]) (by refine ⟨by simp, ?_⟩; intro x hx; simp only [List.mem_cons, List.not_mem_nil, or_false] at hx; rcases hx with rfl <;> first | exact HW1.out)).mono ?_; rintro e w1 ⟨rfl, hb1⟩; have HX1 : More ((w.alloc (.cells #[.int .i64 lx, .int .i64 ly, .int .i64 hx, .int .i64 hy] 86)).alloc (.cells #[.bool s.1.1, .slice sa sn sc, .slice sd sm se, .bool t.1.1, .slice ta tn tc, .slice td tm te] 89)) w1 := (Turns.more (by with_reducible repeat (first | exact Turns.refl _ _ | apply Turns.drew | apply Turns.drewN | apply Turns.alloc | refine Turns.via (by assumption) ?_))); have HB1 := HB _ HX1; have hz1 := More.size HX1; (try simp at hz1); have hb1 := hb1; rw [KPL.out]) | (go_at_call 109; (with_reducible refine (impl_inBox lx ly hx hy [.bool s.1.1, .slice sa sn sc, .slice sd sm se, .bool t.1.1, .slice ta tn tc, .slice td tm te] s t _ HIlx.out HIly.out HIhx.out HIhy.out (Ty.at_more HV1.out (Turns.more (by with_reducible repeat (first | exact Turns.refl _ _ | apply Turns.drew | apply Turns.drewN | apply Turns.alloc | refine Turns.via (by assumption) ?_)))) HW1.out (pointB_parts KP.out).1 (pointB_parts KP.out).2).mono ?_); rintro e w2 ⟨rfl, hb2⟩; have HX2 : More ((w.alloc (.cells #[.int .i64 lx, .int .i64 ly, .int .i64 hx, .int .i64 hy] 86)).alloc (.cells #[.bool s.1.1, .slice sa sn sc, .slice sd sm se, .bool t.1.1, .slice ta tn tc, .slice td tm te] 89)) w2 := (Turns.more (by with_reducible repeat (first | exact Turns.refl _ _ | apply Turns.drew | apply Turns.drewN | apply Turns.alloc | refine Turns.via (by assumption) ?_))); have HB2 := HB _ HX2; have hz2 := More.size HX2; (try simp at hz2); have hb2 := hb2; rw [KI.out]))
    skip
    go_ret
    exact ⟨ret_bool (by simp [KP.out, KI.out]), (Turns.more (by with_reducible repeat (first | exact Turns.refl _ _ | apply Turns.drew | apply Turns.drewN | apply Turns.alloc | refine Turns.via (by assumption) ?_)))⟩
  have KI := Lib.hid KIk; clear KIk
  have HX : More ((w.alloc (.cells #[.int .i64 lx, .int .i64 ly, .int .i64 hx, .int .i64 hy] 86)).alloc (.cells #[.bool s.1.1, .slice sa sn sc, .slice sd sm se, .bool t.1.1, .slice ta tn tc, .slice td tm te] 89)) ((w.alloc (.cells #[.int .i64 lx, .int .i64 ly, .int .i64 hx, .int .i64 hy] 86)).alloc (.cells #[.bool s.1.1, .slice sa sn sc, .slice sd sm se, .bool t.1.1, .slice ta tn tc, .slice td tm te] 89)) := More.refl _
  have HB : ∀ w', More ((w.alloc (.cells #[.int .i64 lx, .int .i64 ly, .int .i64 hx, .int .i64 hy] 86)).alloc (.cells #[.bool s.1.1, .slice sa sn sc, .slice sd sm se, .bool t.1.1, .slice ta tn tc, .slice td tm te] 89)) w' → w'.cell? ⟨w.heap.size, 0, none⟩ = some (.int .i64 lx) ∧ w'.cell? ⟨w.heap.size, 1, none⟩ = some (.int .i64 ly) ∧ w'.cell? ⟨w.heap.size, 2, none⟩ = some (.int .i64 hx) ∧ w'.cell? ⟨w.heap.size, 3, none⟩ = some (.int .i64 hy) ∧ (∀ j, w'.frozen? ⟨w.heap.size, j, none⟩ = false) ∧ w'.cell? ⟨w.heap.size + 1, 0, none⟩ = some (.bool s.1.1) ∧ w'.cell? ⟨w.heap.size + 1, 1, none⟩ = some (.slice sa sn sc) ∧ w'.cell? ⟨w.heap.size + 1, 2, none⟩ = some (.slice sd sm se) ∧ w'.cell? ⟨w.heap.size + 1, 3, none⟩ = some (.bool t.1.1) ∧ w'.cell? ⟨w.heap.size + 1, 4, none⟩ = some (.slice ta tn tc) ∧ w'.cell? ⟨w.heap.size + 1, 5, none⟩ = some (.slice td tm te) ∧ (∀ j, w'.frozen? ⟨w.heap.size + 1, j, none⟩ = false) := fun w' h => ⟨box_new (by simp) (More.un h) 0, box_new (by simp) (More.un h) 1, box_new (by simp) (More.un h) 2, box_new (by simp) (More.un h) 3, fun j => box_free (by simp) (More.un h) j, box_new (by simp) h 0, box_new (by simp) h 1, box_new (by simp) h 2, box_new (by simp) h 3, box_new (by simp) h 4, box_new (by simp) h 5, fun j => box_free (by simp) h j⟩
  have HC := fun (w' : World) (h : Turns [] ((w.alloc (.cells #[.int .i64 lx, .int .i64 ly, .int .i64 hx, .int .i64 hy] 86)).alloc (.cells #[.bool s.1.1, .slice sa sn sc, .slice sd sm se, .bool t.1.1, .slice ta tn tc, .slice td tm te] 89)) w') => HB w' (Turns.more h)
  go_enter Try.func53, Try.ntmps53
  go_wp2_with (first | (go_at_call 108; refine (impl_arePoints _ [(s, t)] _ (lit_at (S := tPoint) (n := 1) [([.bool s.1.1, .slice sa sn sc, .slice sd sm se, .bool t.1.1, .slice ta tn tc, .slice td tm te], (s, t))] (by simp) rfl rfl (by decide) (by rintro p hp; simp only [List.mem_cons, List.not_mem_nil, or_false] at hp; rcases hp with rfl <;> first | exact ⟨rfl, (Ty.at_more HV1.out (Turns.more (by with_reducible repeat (first | exact Turns.refl _ _ | apply Turns.drew | apply Turns.drewN | apply Turns.alloc | refine Turns.via (by assumption) ?_))))⟩) : (tSlice tPoint).at _ [_] [(s, t)]) (by refine ⟨by simp, ?_⟩; intro x hx; simp only [List.mem_cons, List.not_mem_nil, or_false] at hx; rcases hx with rfl <;> first | exact HW1.out)).mono ?_; rintro e w1 ⟨rfl, hb1⟩; have HX1 : More ((w.alloc (.cells #[.int .i64 lx, .int .i64 ly, .int .i64 hx, .int .i64 hy] 86)).alloc (.cells #[.bool s.1.1, .slice sa sn sc, .slice sd sm se, .bool t.1.1, .slice ta tn tc, .slice td tm te] 89)) w1 := (Turns.more (by with_reducible repeat (first | exact Turns.refl _ _ | apply Turns.drew | apply Turns.drewN | apply Turns.alloc | refine Turns.via (by assumption) ?_))); have HB1 := HB _ HX1; have hz1 := More.size HX1; (try simp at hz1); have hb1 := hb1; rw [KPL.out]) | (go_at_call 109; (with_reducible refine (impl_inBox lx ly hx hy [.bool s.1.1, .slice sa sn sc, .slice sd sm se, .bool t.1.1, .slice ta tn tc, .slice td tm te] s t _ HIlx.out HIly.out HIhx.out HIhy.out (Ty.at_more HV1.out (Turns.more (by with_reducible repeat (first | exact Turns.refl _ _ | apply Turns.drew | apply Turns.drewN | apply Turns.alloc | refine Turns.via (by assumption) ?_)))) HW1.out (pointB_parts KP.out).1 (pointB_parts KP.out).2).mono ?_); rintro e w2 ⟨rfl, hb2⟩; have HX2 : More ((w.alloc (.cells #[.int .i64 lx, .int .i64 ly, .int .i64 hx, .int .i64 hy] 86)).alloc (.cells #[.bool s.1.1, .slice sa sn sc, .slice sd sm se, .bool t.1.1, .slice ta tn tc, .slice td tm te] 89)) w2 := (Turns.more (by with_reducible repeat (first | exact Turns.refl _ _ | apply Turns.drew | apply Turns.drewN | apply Turns.alloc | refine Turns.via (by assumption) ?_))); have HB2 := HB _ HX2; have hz2 := More.size HX2; (try simp at hz2); have hb2 := hb2; rw [KI.out]))
  skip
  go_ret
  exact ⟨ret_bool (by first | (simp [KP.out, KI.out]; done) | (simp [KP.out, KI.out] <;> omega)), (Turns.more (by with_reducible repeat (first | exact Turns.refl _ _ | apply Turns.drew | apply Turns.drewN | apply Turns.alloc | refine Turns.via (by assumption) ?_)))⟩
set_option maxRecDepth 8000 in
set_option maxHeartbeats 12800000 in
theorem spec_InBox (lx ly hx hy : Int) (cs1 : List Value) (s t : QR) (w : World) (i1 : In64 lx) (i2 : In64 ly) (i3 : In64 hx) (i4 : In64 hy) (hv1 : tPoint.at w cs1 (s, t)) (hw1 : wPoint (s, t) ≤ 1048576) :
    Calls Try.prog 50 #[.agg #[.int .i64 lx, .int .i64 ly, .int .i64 hx, .int .i64 hy], .agg cs1.toArray] w fun e w' => e = .returned (.bool (inBoxB ((lx, ly), (hx, hy)) (s, t))) ∧ More w w' := by
  have HIlx := Lib.hid i1; have HIly := Lib.hid i2; have HIhx := Lib.hid i3; have HIhy := Lib.hid i4; clear i1 i2 i3 i4
  obtain ⟨k0, d0, rfl, f0, e0⟩ := at_prod hv1
  have f1 := e0; clear e0
  have f0 : tRat.at w _ s := f0
  obtain ⟨sa, sn, sc, sd, sm, se, rfl⟩ := sh_Rat f0
  have Hs := Lib.hid f0; clear f0
  try clear f0
  have Ws : Hid (wRat s ≤ 1048576) := Lib.hid (by have h := hw1; unfold wPoint at h; dsimp only at h; omega)
  have f1 : tRat.at w _ t := f1
  obtain ⟨ta, tn, tc, td, tm, te, rfl⟩ := sh_Rat f1
  have Ht := Lib.hid f1; clear f1
  try clear f1
  have Wt : Hid (wRat t ≤ 1048576) := Lib.hid (by have h := hw1; unfold wPoint at h; dsimp only at h; omega)
  try clear e0 e1
  have HV1 : Hid (tPoint.at w [.bool s.1.1, .slice sa sn sc, .slice sd sm se, .bool t.1.1, .slice ta tn tc, .slice td tm te] (s, t)) := Lib.hid hv1; have HW1 := Lib.hid hw1; clear hv1 hw1
  have KIlx : Hid (ratOkB (encR (frInt lx)) = true) := Lib.hid (ratOk_int HIlx.out); have WIlx : Hid (wRat (encR (frInt lx)) ≤ 1048576) := Lib.hid (wRat_int HIlx.out)
  obtain ⟨s1, zs1⟩ : ∃ b, decide (lx < 0) = b := ⟨_, rfl⟩
  have SIlx := Lib.hid zs1; clear zs1
  have KIhx : Hid (ratOkB (encR (frInt hx)) = true) := Lib.hid (ratOk_int HIhx.out); have WIhx : Hid (wRat (encR (frInt hx)) ≤ 1048576) := Lib.hid (wRat_int HIhx.out)
  obtain ⟨s2, zs2⟩ : ∃ b, decide (hx < 0) = b := ⟨_, rfl⟩
  have SIhx := Lib.hid zs2; clear zs2
  have KIly : Hid (ratOkB (encR (frInt ly)) = true) := Lib.hid (ratOk_int HIly.out); have WIly : Hid (wRat (encR (frInt ly)) ≤ 1048576) := Lib.hid (wRat_int HIly.out)
  obtain ⟨s3, zs3⟩ : ∃ b, decide (ly < 0) = b := ⟨_, rfl⟩
  have SIly := Lib.hid zs3; clear zs3
  have KIhy : Hid (ratOkB (encR (frInt hy)) = true) := Lib.hid (ratOk_int HIhy.out); have WIhy : Hid (wRat (encR (frInt hy)) ≤ 1048576) := Lib.hid (wRat_int HIhy.out)
  obtain ⟨s4, zs4⟩ : ∃ b, decide (hy < 0) = b := ⟨_, rfl⟩
  have SIhy := Lib.hid zs4; clear zs4
  show Calls Try.prog 50 #[.agg #[.int .i64 lx, .int .i64 ly, .int .i64 hx, .int .i64 hy], .agg #[.bool s.1.1, .slice sa sn sc, .slice sd sm se, .bool t.1.1, .slice ta tn tc, .slice td tm te]] w _
  obtain ⟨c0, c0h⟩ : ∃ c, rCmp s (encR (frInt lx)) = c := ⟨_, rfl⟩
  have C := Lib.hid c0h; clear c0h
  obtain ⟨d0, d0h⟩ : ∃ c, rCmp s (encR (frInt hx)) = c := ⟨_, rfl⟩
  have D := Lib.hid d0h; clear d0h
  obtain ⟨e0, e0h⟩ : ∃ c, rCmp t (encR (frInt ly)) = c := ⟨_, rfl⟩
  have E := Lib.hid e0h; clear e0h
  obtain ⟨f0, f0h⟩ : ∃ c, rCmp t (encR (frInt hy)) = c := ⟨_, rfl⟩
  have F := Lib.hid f0h; clear f0h
  rcases (show 0 < c0 ∨ c0 ≤ 0 by omega) with hC | hC
  rotate_left
  · have hCd : decide (0 < c0) = false := decide_eq_false (by omega)
    have HX : More ((w.alloc (.cells #[.int .i64 lx, .int .i64 ly, .int .i64 hx, .int .i64 hy] 86)).alloc (.cells #[.bool s.1.1, .slice sa sn sc, .slice sd sm se, .bool t.1.1, .slice ta tn tc, .slice td tm te] 89)) ((w.alloc (.cells #[.int .i64 lx, .int .i64 ly, .int .i64 hx, .int .i64 hy] 86)).alloc (.cells #[.bool s.1.1, .slice sa sn sc, .slice sd sm se, .bool t.1.1, .slice ta tn tc, .slice td tm te] 89)) := More.refl _
    have HB : ∀ w', More ((w.alloc (.cells #[.int .i64 lx, .int .i64 ly, .int .i64 hx, .int .i64 hy] 86)).alloc (.cells #[.bool s.1.1, .slice sa sn sc, .slice sd sm se, .bool t.1.1, .slice ta tn tc, .slice td tm te] 89)) w' → w'.cell? ⟨w.heap.size, 0, none⟩ = some (.int .i64 lx) ∧ w'.cell? ⟨w.heap.size, 1, none⟩ = some (.int .i64 ly) ∧ w'.cell? ⟨w.heap.size, 2, none⟩ = some (.int .i64 hx) ∧ w'.cell? ⟨w.heap.size, 3, none⟩ = some (.int .i64 hy) ∧ (∀ j, w'.frozen? ⟨w.heap.size, j, none⟩ = false) ∧ w'.cell? ⟨w.heap.size + 1, 0, none⟩ = some (.bool s.1.1) ∧ w'.cell? ⟨w.heap.size + 1, 1, none⟩ = some (.slice sa sn sc) ∧ w'.cell? ⟨w.heap.size + 1, 2, none⟩ = some (.slice sd sm se) ∧ w'.cell? ⟨w.heap.size + 1, 3, none⟩ = some (.bool t.1.1) ∧ w'.cell? ⟨w.heap.size + 1, 4, none⟩ = some (.slice ta tn tc) ∧ w'.cell? ⟨w.heap.size + 1, 5, none⟩ = some (.slice td tm te) ∧ (∀ j, w'.frozen? ⟨w.heap.size + 1, j, none⟩ = false) := fun w' h => ⟨box_new (by simp) (More.un h) 0, box_new (by simp) (More.un h) 1, box_new (by simp) (More.un h) 2, box_new (by simp) (More.un h) 3, fun j => box_free (by simp) (More.un h) j, box_new (by simp) h 0, box_new (by simp) h 1, box_new (by simp) h 2, box_new (by simp) h 3, box_new (by simp) h 4, box_new (by simp) h 5, fun j => box_free (by simp) h j⟩
    have HC := fun (w' : World) (h : Turns [] ((w.alloc (.cells #[.int .i64 lx, .int .i64 ly, .int .i64 hx, .int .i64 hy] 86)).alloc (.cells #[.bool s.1.1, .slice sa sn sc, .slice sd sm se, .bool t.1.1, .slice ta tn tc, .slice td tm te] 89)) w') => HB w' (Turns.more h)
    go_enter Try.func50, Try.ntmps50
    go_wp2_with fail
    refine wp_region_held_drew (S := (fun w' => Turns [] ((w.alloc (.cells #[.int .i64 lx, .int .i64 ly, .int .i64 hx, .int .i64 hy] 86)).alloc (.cells #[.bool s.1.1, .slice sa sn sc, .slice sd sm se, .bool t.1.1, .slice ta tn tc, .slice td tm te] 89)) w')) (by kernel_rfl) ?_ (fun hHeld => ?_)
    · first | exact (by with_reducible repeat (first | exact Turns.refl _ _ | apply Turns.drew | apply Turns.drewN | apply Turns.alloc | refine Turns.setCell ?_ (by first | (left; simp; done) | (right; simp <;> omega)) _ | refine Turns.via (by assumption) ?_)) | exact (Turns.more (by with_reducible repeat (first | exact Turns.refl _ _ | apply Turns.drew | apply Turns.drewN | apply Turns.alloc | refine Turns.setCellR ?_ (by simp <;> omega) _ | refine Turns.via (by assumption) ?_)))
    refine tk (v := ?_) 0 ⟨some 6, _, _, _, _, _⟩ rfl ?_ ?_
    rotate_left 2
    · (intro w hSw; (try dsimp only at hSw); go_simp; (try with_reducible rfl))
    (try simp only [Act.put, List.setIfInBounds_toArray, List.set_cons_zero, List.set_cons_succ])
    refine tk (v := ?_) 1 ⟨some 7, _, _, _, _, _⟩ rfl ?_ ?_
    rotate_left 2
    · (intro w hSw; (try dsimp only at hSw); go_simp; (try with_reducible rfl))
    (try simp only [Act.put, List.setIfInBounds_toArray, List.set_cons_zero, List.set_cons_succ])
    refine tk (v := ?_) 2 ⟨some 8, _, _, _, _, _⟩ rfl ?_ ?_
    rotate_left 2
    · (intro w hSw; (try dsimp only at hSw); go_simp; (try with_reducible rfl))
    (try simp only [Act.put, List.setIfInBounds_toArray, List.set_cons_zero, List.set_cons_succ])
    refine tk (v := ?_) 3 ⟨some 9, _, _, _, _, _⟩ rfl ?_ ?_
    rotate_left 2
    · (intro w hSw; (try dsimp only at hSw); go_simp; (try with_reducible rfl))
    (try simp only [Act.put, List.setIfInBounds_toArray, List.set_cons_zero, List.set_cons_succ])
    refine tk (v := ?_) 4 ⟨some 10, _, _, _, _, _⟩ rfl ?_ ?_
    rotate_left 2
    · (intro w hSw; (try dsimp only at hSw); go_simp; (try with_reducible rfl))
    (try simp only [Act.put, List.setIfInBounds_toArray, List.set_cons_zero, List.set_cons_succ])
    refine wpAnyH_ready (rs := [5]) (by kernel_rfl) (by simp) ?_
    refine AllReadyH.cons (o := ⟨some 11, _, _, _, _, _⟩) rfl (fun K hK => ?_) AllReadyH.nil
    go_simp
    (go_at_call 102; (with_reducible refine (spec_RatFromInt lx _ HIlx.out).mono ?_); rintro e w1 ⟨u1, v1, rfl, hb1, g1⟩; rw [SIlx.out]; obtain ⟨r1a, r1n, r1c, r1d, r1m, r1e, rfl, rfl⟩ := g1.sh; have G1 := Lib.hid (int_raw SIlx.out g1); clear g1; have HX1 : More ((w.alloc (.cells #[.int .i64 lx, .int .i64 ly, .int .i64 hx, .int .i64 hy] 86)).alloc (.cells #[.bool s.1.1, .slice sa sn sc, .slice sd sm se, .bool t.1.1, .slice ta tn tc, .slice td tm te] 89)) w1 := (Turns.more (by with_reducible repeat (first | exact Turns.refl _ _ | apply Turns.drew | apply Turns.drewN | apply Turns.alloc | refine Turns.via (by assumption) ?_))); have HB1 := HB _ HX1; have hz1 := More.size HX1; (try simp at hz1); have hb1 := hb1)
    refine hK.out _ _ ?_ (fun hHeld => ?_)
    · first | exact (by with_reducible repeat (first | exact Turns.refl _ _ | apply Turns.drew | apply Turns.drewN | apply Turns.alloc | refine Turns.setCell ?_ (by first | (left; simp; done) | (right; simp <;> omega)) _ | refine Turns.via (by assumption) ?_)) | exact (Turns.more (by with_reducible repeat (first | exact Turns.refl _ _ | apply Turns.drew | apply Turns.drewN | apply Turns.alloc | refine Turns.setCellR ?_ (by simp <;> omega) _ | refine Turns.via (by assumption) ?_)))
    clear hK K
    (try simp only [Act.put, List.setIfInBounds_toArray, List.set_cons_zero, List.set_cons_succ])
    refine wpAnyH_ready (rs := [6]) (by kernel_rfl) (by simp) ?_
    refine AllReadyH.cons (o := ⟨some 12, _, _, _, _, _⟩) rfl (fun K hK => ?_) AllReadyH.nil
    go_simp
    (go_at_call 96; (with_reducible refine (spec_RatCmpX s s.1.1 (.slice sa sn sc) (.slice sd sm se) (encR (frInt lx)) s1 (.slice r1a r1n r1c) (.slice r1d r1m r1e) _ (Ty.at_more Hs.out (Turns.more (by with_reducible repeat (first | exact Turns.refl _ _ | apply Turns.drew | apply Turns.drewN | apply Turns.alloc | refine Turns.via (by assumption) ?_)))) Ws.out (Ty.at_more G1.out (Turns.more (by with_reducible repeat (first | exact Turns.refl _ _ | apply Turns.drew | apply Turns.drewN | apply Turns.alloc | refine Turns.via (by assumption) ?_)))) WIlx.out).mono ?_); rintro e w2 ⟨rfl, hb2⟩; rw [C.out]; have HX2 : More ((w.alloc (.cells #[.int .i64 lx, .int .i64 ly, .int .i64 hx, .int .i64 hy] 86)).alloc (.cells #[.bool s.1.1, .slice sa sn sc, .slice sd sm se, .bool t.1.1, .slice ta tn tc, .slice td tm te] 89)) w2 := (Turns.more (by with_reducible repeat (first | exact Turns.refl _ _ | apply Turns.drew | apply Turns.drewN | apply Turns.alloc | refine Turns.via (by assumption) ?_))); have HB2 := HB _ HX2; have hz2 := More.size HX2; (try simp at hz2); have hb2 := hb2)
    refine hK.out _ _ ?_ (fun hHeld => ?_)
    · first | exact (by with_reducible repeat (first | exact Turns.refl _ _ | apply Turns.drew | apply Turns.drewN | apply Turns.alloc | refine Turns.setCell ?_ (by first | (left; simp; done) | (right; simp <;> omega)) _ | refine Turns.via (by assumption) ?_)) | exact (Turns.more (by with_reducible repeat (first | exact Turns.refl _ _ | apply Turns.drew | apply Turns.drewN | apply Turns.alloc | refine Turns.setCellR ?_ (by simp <;> omega) _ | refine Turns.via (by assumption) ?_)))
    clear hK K
    (try simp only [Act.put, List.setIfInBounds_toArray, List.set_cons_zero, List.set_cons_succ])
    refine tk (v := ?_) 7 ⟨some 13, _, _, _, _, _⟩ rfl ?_ ?_
    rotate_left 2
    · (intro w hSw; (try dsimp only at hSw); go_simp; (try with_reducible rfl))
    (try simp only [Act.put, List.setIfInBounds_toArray, List.set_cons_zero, List.set_cons_succ])
    refine tk (v := ?_) 8 ⟨some 14, _, _, _, _, _⟩ rfl ?_ ?_
    rotate_left 2
    · (intro w hSw; (try dsimp only at hSw); go_simp; (try with_reducible rfl))
    (try simp only [Act.put, List.setIfInBounds_toArray, List.set_cons_zero, List.set_cons_succ])
    refine tk0 9 ⟨some 15, _, _, _, _, _⟩ rfl ?_
    (try simp only [Act.put, List.setIfInBounds_toArray, List.set_cons_zero, List.set_cons_succ])
    refine tk0 10 ⟨some 16, _, _, _, _, _⟩ rfl ?_
    (try simp only [Act.put, List.setIfInBounds_toArray, List.set_cons_zero, List.set_cons_succ])
    refine tk0 11 ⟨some 17, _, _, _, _, _⟩ rfl ?_
    (try simp only [Act.put, List.setIfInBounds_toArray, List.set_cons_zero, List.set_cons_succ])
    refine tk0 12 ⟨some 18, _, _, _, _, _⟩ rfl ?_
    (try simp only [Act.put, List.setIfInBounds_toArray, List.set_cons_zero, List.set_cons_succ])
    refine tk0 13 ⟨some 19, _, _, _, _, _⟩ rfl ?_
    (try simp only [Act.put, List.setIfInBounds_toArray, List.set_cons_zero, List.set_cons_succ])
    refine tk0 14 ⟨some 20, _, _, _, _, _⟩ rfl ?_
    (try simp only [Act.put, List.setIfInBounds_toArray, List.set_cons_zero, List.set_cons_succ])
    refine tk0 15 ⟨some 21, _, _, _, _, _⟩ rfl ?_
    (try simp only [Act.put, List.setIfInBounds_toArray, List.set_cons_zero, List.set_cons_succ])
    refine tk0 16 ⟨some 22, _, _, _, _, _⟩ rfl ?_
    (try simp only [Act.put, List.setIfInBounds_toArray, List.set_cons_zero, List.set_cons_succ])
    refine tk (v := ?_) 17 ⟨some 23, _, _, _, _, _⟩ rfl ?_ ?_
    rotate_left 2
    · (intro w hSw; (try dsimp only at hSw); go_simp; (try with_reducible rfl))
    (try simp only [Act.put, List.setIfInBounds_toArray, List.set_cons_zero, List.set_cons_succ])
    refine tk (v := ?_) 18 ⟨some 5, _, _, _, _, _⟩ rfl ?_ ?_
    rotate_left 2
    · (intro w hSw; (try dsimp only at hSw); go_simp; (try with_reducible rfl))
    (try simp only [Act.put, List.setIfInBounds_toArray, List.set_cons_zero, List.set_cons_succ])
    refine wpAnyH_done (by kernel_rfl) ?_ _
    go_wp2_with fail
    refine wp_region_held_drew (S := (fun w' => Turns [] ((w.alloc (.cells #[.int .i64 lx, .int .i64 ly, .int .i64 hx, .int .i64 hy] 86)).alloc (.cells #[.bool s.1.1, .slice sa sn sc, .slice sd sm se, .bool t.1.1, .slice ta tn tc, .slice td tm te] 89)) w')) (by kernel_rfl) ?_ (fun hHeld => ?_)
    · first | exact (by with_reducible repeat (first | exact Turns.refl _ _ | apply Turns.drew | apply Turns.drewN | apply Turns.alloc | refine Turns.setCell ?_ (by first | (left; simp; done) | (right; simp <;> omega)) _ | refine Turns.via (by assumption) ?_)) | exact (Turns.more (by with_reducible repeat (first | exact Turns.refl _ _ | apply Turns.drew | apply Turns.drewN | apply Turns.alloc | refine Turns.setCellR ?_ (by simp <;> omega) _ | refine Turns.via (by assumption) ?_)))
    refine tk (v := ?_) 0 ⟨some 24, _, _, _, _, _⟩ rfl ?_ ?_
    rotate_left 2
    · (intro w hSw; (try dsimp only at hSw); go_simp; (try with_reducible rfl))
    (try simp only [Act.put, List.setIfInBounds_toArray, List.set_cons_zero, List.set_cons_succ])
    refine tk (v := ?_) 1 ⟨some 25, _, _, _, _, _⟩ rfl ?_ ?_
    rotate_left 2
    · (intro w hSw; (try dsimp only at hSw); go_simp; (try with_reducible rfl))
    (try simp only [Act.put, List.setIfInBounds_toArray, List.set_cons_zero, List.set_cons_succ])
    refine tk0 2 ⟨some 26, _, _, _, _, _⟩ rfl ?_
    (try simp only [Act.put, List.setIfInBounds_toArray, List.set_cons_zero, List.set_cons_succ])
    refine tk0 3 ⟨some 27, _, _, _, _, _⟩ rfl ?_
    (try simp only [Act.put, List.setIfInBounds_toArray, List.set_cons_zero, List.set_cons_succ])
    refine tk0 4 ⟨some 28, _, _, _, _, _⟩ rfl ?_
    (try simp only [Act.put, List.setIfInBounds_toArray, List.set_cons_zero, List.set_cons_succ])
    refine tk0 5 ⟨some 29, _, _, _, _, _⟩ rfl ?_
    (try simp only [Act.put, List.setIfInBounds_toArray, List.set_cons_zero, List.set_cons_succ])
    refine tk0 6 ⟨some 30, _, _, _, _, _⟩ rfl ?_
    (try simp only [Act.put, List.setIfInBounds_toArray, List.set_cons_zero, List.set_cons_succ])
    refine tk0 7 ⟨some 31, _, _, _, _, _⟩ rfl ?_
    (try simp only [Act.put, List.setIfInBounds_toArray, List.set_cons_zero, List.set_cons_succ])
    refine tk0 8 ⟨some 32, _, _, _, _, _⟩ rfl ?_
    (try simp only [Act.put, List.setIfInBounds_toArray, List.set_cons_zero, List.set_cons_succ])
    refine tk0 9 ⟨some 33, _, _, _, _, _⟩ rfl ?_
    (try simp only [Act.put, List.setIfInBounds_toArray, List.set_cons_zero, List.set_cons_succ])
    refine tk (v := ?_) 10 ⟨some 34, _, _, _, _, _⟩ rfl ?_ ?_
    rotate_left 2
    · (intro w hSw; (try dsimp only at hSw); go_simp; (try with_reducible rfl))
    (try simp only [Act.put, List.setIfInBounds_toArray, List.set_cons_zero, List.set_cons_succ])
    refine tk (v := ?_) 11 ⟨some 35, _, _, _, _, _⟩ rfl ?_ ?_
    rotate_left 2
    · (intro w hSw; (try dsimp only at hSw); go_simp; (try with_reducible rfl))
    (try simp only [Act.put, List.setIfInBounds_toArray, List.set_cons_zero, List.set_cons_succ])
    refine tk0 12 ⟨some 36, _, _, _, _, _⟩ rfl ?_
    (try simp only [Act.put, List.setIfInBounds_toArray, List.set_cons_zero, List.set_cons_succ])
    refine tk0 13 ⟨some 37, _, _, _, _, _⟩ rfl ?_
    (try simp only [Act.put, List.setIfInBounds_toArray, List.set_cons_zero, List.set_cons_succ])
    refine tk0 14 ⟨some 38, _, _, _, _, _⟩ rfl ?_
    (try simp only [Act.put, List.setIfInBounds_toArray, List.set_cons_zero, List.set_cons_succ])
    refine tk0 15 ⟨some 39, _, _, _, _, _⟩ rfl ?_
    (try simp only [Act.put, List.setIfInBounds_toArray, List.set_cons_zero, List.set_cons_succ])
    refine tk0 16 ⟨some 40, _, _, _, _, _⟩ rfl ?_
    (try simp only [Act.put, List.setIfInBounds_toArray, List.set_cons_zero, List.set_cons_succ])
    refine tk0 17 ⟨some 41, _, _, _, _, _⟩ rfl ?_
    (try simp only [Act.put, List.setIfInBounds_toArray, List.set_cons_zero, List.set_cons_succ])
    refine tk0 18 ⟨some 42, _, _, _, _, _⟩ rfl ?_
    (try simp only [Act.put, List.setIfInBounds_toArray, List.set_cons_zero, List.set_cons_succ])
    refine tk0 19 ⟨some 43, _, _, _, _, _⟩ rfl ?_
    (try simp only [Act.put, List.setIfInBounds_toArray, List.set_cons_zero, List.set_cons_succ])
    refine tk (v := ?_) 20 ⟨some 44, _, _, _, _, _⟩ rfl ?_ ?_
    rotate_left 2
    · (intro w hSw; (try dsimp only at hSw); go_simp; (try with_reducible rfl))
    (try simp only [Act.put, List.setIfInBounds_toArray, List.set_cons_zero, List.set_cons_succ])
    refine tk (v := ?_) 21 ⟨some 4, _, _, _, _, _⟩ rfl ?_ ?_
    rotate_left 2
    · (intro w hSw; (try dsimp only at hSw); go_simp; (try with_reducible rfl))
    (try simp only [Act.put, List.setIfInBounds_toArray, List.set_cons_zero, List.set_cons_succ])
    refine wpAnyH_done (by kernel_rfl) ?_ _
    go_wp2_with fail
    go_ret
    exact ⟨ret_bool (by first | (simp [inBoxB, C.out, D.out, E.out, F.out]; done) | (simp [inBoxB, C.out, D.out, E.out, F.out] <;> omega)), (Turns.more (by with_reducible repeat (first | exact Turns.refl _ _ | apply Turns.drew | apply Turns.drewN | apply Turns.alloc | refine Turns.via (by assumption) ?_)))⟩
  have hCd : decide (0 < c0) = true := decide_eq_true (by omega)
  rcases (show d0 < 0 ∨ 0 ≤ d0 by omega) with hD | hD
  rotate_left
  · have hDd : decide (d0 < 0) = false := decide_eq_false (by omega)
    have HX : More ((w.alloc (.cells #[.int .i64 lx, .int .i64 ly, .int .i64 hx, .int .i64 hy] 86)).alloc (.cells #[.bool s.1.1, .slice sa sn sc, .slice sd sm se, .bool t.1.1, .slice ta tn tc, .slice td tm te] 89)) ((w.alloc (.cells #[.int .i64 lx, .int .i64 ly, .int .i64 hx, .int .i64 hy] 86)).alloc (.cells #[.bool s.1.1, .slice sa sn sc, .slice sd sm se, .bool t.1.1, .slice ta tn tc, .slice td tm te] 89)) := More.refl _
    have HB : ∀ w', More ((w.alloc (.cells #[.int .i64 lx, .int .i64 ly, .int .i64 hx, .int .i64 hy] 86)).alloc (.cells #[.bool s.1.1, .slice sa sn sc, .slice sd sm se, .bool t.1.1, .slice ta tn tc, .slice td tm te] 89)) w' → w'.cell? ⟨w.heap.size, 0, none⟩ = some (.int .i64 lx) ∧ w'.cell? ⟨w.heap.size, 1, none⟩ = some (.int .i64 ly) ∧ w'.cell? ⟨w.heap.size, 2, none⟩ = some (.int .i64 hx) ∧ w'.cell? ⟨w.heap.size, 3, none⟩ = some (.int .i64 hy) ∧ (∀ j, w'.frozen? ⟨w.heap.size, j, none⟩ = false) ∧ w'.cell? ⟨w.heap.size + 1, 0, none⟩ = some (.bool s.1.1) ∧ w'.cell? ⟨w.heap.size + 1, 1, none⟩ = some (.slice sa sn sc) ∧ w'.cell? ⟨w.heap.size + 1, 2, none⟩ = some (.slice sd sm se) ∧ w'.cell? ⟨w.heap.size + 1, 3, none⟩ = some (.bool t.1.1) ∧ w'.cell? ⟨w.heap.size + 1, 4, none⟩ = some (.slice ta tn tc) ∧ w'.cell? ⟨w.heap.size + 1, 5, none⟩ = some (.slice td tm te) ∧ (∀ j, w'.frozen? ⟨w.heap.size + 1, j, none⟩ = false) := fun w' h => ⟨box_new (by simp) (More.un h) 0, box_new (by simp) (More.un h) 1, box_new (by simp) (More.un h) 2, box_new (by simp) (More.un h) 3, fun j => box_free (by simp) (More.un h) j, box_new (by simp) h 0, box_new (by simp) h 1, box_new (by simp) h 2, box_new (by simp) h 3, box_new (by simp) h 4, box_new (by simp) h 5, fun j => box_free (by simp) h j⟩
    have HC := fun (w' : World) (h : Turns [] ((w.alloc (.cells #[.int .i64 lx, .int .i64 ly, .int .i64 hx, .int .i64 hy] 86)).alloc (.cells #[.bool s.1.1, .slice sa sn sc, .slice sd sm se, .bool t.1.1, .slice ta tn tc, .slice td tm te] 89)) w') => HB w' (Turns.more h)
    go_enter Try.func50, Try.ntmps50
    go_wp2_with fail
    refine wp_region_held_drew (S := (fun w' => Turns [] ((w.alloc (.cells #[.int .i64 lx, .int .i64 ly, .int .i64 hx, .int .i64 hy] 86)).alloc (.cells #[.bool s.1.1, .slice sa sn sc, .slice sd sm se, .bool t.1.1, .slice ta tn tc, .slice td tm te] 89)) w')) (by kernel_rfl) ?_ (fun hHeld => ?_)
    · first | exact (by with_reducible repeat (first | exact Turns.refl _ _ | apply Turns.drew | apply Turns.drewN | apply Turns.alloc | refine Turns.setCell ?_ (by first | (left; simp; done) | (right; simp <;> omega)) _ | refine Turns.via (by assumption) ?_)) | exact (Turns.more (by with_reducible repeat (first | exact Turns.refl _ _ | apply Turns.drew | apply Turns.drewN | apply Turns.alloc | refine Turns.setCellR ?_ (by simp <;> omega) _ | refine Turns.via (by assumption) ?_)))
    refine tk (v := ?_) 0 ⟨some 6, _, _, _, _, _⟩ rfl ?_ ?_
    rotate_left 2
    · (intro w hSw; (try dsimp only at hSw); go_simp; (try with_reducible rfl))
    (try simp only [Act.put, List.setIfInBounds_toArray, List.set_cons_zero, List.set_cons_succ])
    refine tk (v := ?_) 1 ⟨some 7, _, _, _, _, _⟩ rfl ?_ ?_
    rotate_left 2
    · (intro w hSw; (try dsimp only at hSw); go_simp; (try with_reducible rfl))
    (try simp only [Act.put, List.setIfInBounds_toArray, List.set_cons_zero, List.set_cons_succ])
    refine tk (v := ?_) 2 ⟨some 8, _, _, _, _, _⟩ rfl ?_ ?_
    rotate_left 2
    · (intro w hSw; (try dsimp only at hSw); go_simp; (try with_reducible rfl))
    (try simp only [Act.put, List.setIfInBounds_toArray, List.set_cons_zero, List.set_cons_succ])
    refine tk (v := ?_) 3 ⟨some 9, _, _, _, _, _⟩ rfl ?_ ?_
    rotate_left 2
    · (intro w hSw; (try dsimp only at hSw); go_simp; (try with_reducible rfl))
    (try simp only [Act.put, List.setIfInBounds_toArray, List.set_cons_zero, List.set_cons_succ])
    refine tk (v := ?_) 4 ⟨some 10, _, _, _, _, _⟩ rfl ?_ ?_
    rotate_left 2
    · (intro w hSw; (try dsimp only at hSw); go_simp; (try with_reducible rfl))
    (try simp only [Act.put, List.setIfInBounds_toArray, List.set_cons_zero, List.set_cons_succ])
    refine wpAnyH_ready (rs := [5]) (by kernel_rfl) (by simp) ?_
    refine AllReadyH.cons (o := ⟨some 11, _, _, _, _, _⟩) rfl (fun K hK => ?_) AllReadyH.nil
    go_simp
    (go_at_call 102; (with_reducible refine (spec_RatFromInt lx _ HIlx.out).mono ?_); rintro e w1 ⟨u1, v1, rfl, hb1, g1⟩; rw [SIlx.out]; obtain ⟨r1a, r1n, r1c, r1d, r1m, r1e, rfl, rfl⟩ := g1.sh; have G1 := Lib.hid (int_raw SIlx.out g1); clear g1; have HX1 : More ((w.alloc (.cells #[.int .i64 lx, .int .i64 ly, .int .i64 hx, .int .i64 hy] 86)).alloc (.cells #[.bool s.1.1, .slice sa sn sc, .slice sd sm se, .bool t.1.1, .slice ta tn tc, .slice td tm te] 89)) w1 := (Turns.more (by with_reducible repeat (first | exact Turns.refl _ _ | apply Turns.drew | apply Turns.drewN | apply Turns.alloc | refine Turns.via (by assumption) ?_))); have HB1 := HB _ HX1; have hz1 := More.size HX1; (try simp at hz1); have hb1 := hb1)
    refine hK.out _ _ ?_ (fun hHeld => ?_)
    · first | exact (by with_reducible repeat (first | exact Turns.refl _ _ | apply Turns.drew | apply Turns.drewN | apply Turns.alloc | refine Turns.setCell ?_ (by first | (left; simp; done) | (right; simp <;> omega)) _ | refine Turns.via (by assumption) ?_)) | exact (Turns.more (by with_reducible repeat (first | exact Turns.refl _ _ | apply Turns.drew | apply Turns.drewN | apply Turns.alloc | refine Turns.setCellR ?_ (by simp <;> omega) _ | refine Turns.via (by assumption) ?_)))
    clear hK K
    (try simp only [Act.put, List.setIfInBounds_toArray, List.set_cons_zero, List.set_cons_succ])
    refine wpAnyH_ready (rs := [6]) (by kernel_rfl) (by simp) ?_
    refine AllReadyH.cons (o := ⟨some 12, _, _, _, _, _⟩) rfl (fun K hK => ?_) AllReadyH.nil
    go_simp
    (go_at_call 96; (with_reducible refine (spec_RatCmpX s s.1.1 (.slice sa sn sc) (.slice sd sm se) (encR (frInt lx)) s1 (.slice r1a r1n r1c) (.slice r1d r1m r1e) _ (Ty.at_more Hs.out (Turns.more (by with_reducible repeat (first | exact Turns.refl _ _ | apply Turns.drew | apply Turns.drewN | apply Turns.alloc | refine Turns.via (by assumption) ?_)))) Ws.out (Ty.at_more G1.out (Turns.more (by with_reducible repeat (first | exact Turns.refl _ _ | apply Turns.drew | apply Turns.drewN | apply Turns.alloc | refine Turns.via (by assumption) ?_)))) WIlx.out).mono ?_); rintro e w2 ⟨rfl, hb2⟩; rw [C.out]; have HX2 : More ((w.alloc (.cells #[.int .i64 lx, .int .i64 ly, .int .i64 hx, .int .i64 hy] 86)).alloc (.cells #[.bool s.1.1, .slice sa sn sc, .slice sd sm se, .bool t.1.1, .slice ta tn tc, .slice td tm te] 89)) w2 := (Turns.more (by with_reducible repeat (first | exact Turns.refl _ _ | apply Turns.drew | apply Turns.drewN | apply Turns.alloc | refine Turns.via (by assumption) ?_))); have HB2 := HB _ HX2; have hz2 := More.size HX2; (try simp at hz2); have hb2 := hb2)
    refine hK.out _ _ ?_ (fun hHeld => ?_)
    · first | exact (by with_reducible repeat (first | exact Turns.refl _ _ | apply Turns.drew | apply Turns.drewN | apply Turns.alloc | refine Turns.setCell ?_ (by first | (left; simp; done) | (right; simp <;> omega)) _ | refine Turns.via (by assumption) ?_)) | exact (Turns.more (by with_reducible repeat (first | exact Turns.refl _ _ | apply Turns.drew | apply Turns.drewN | apply Turns.alloc | refine Turns.setCellR ?_ (by simp <;> omega) _ | refine Turns.via (by assumption) ?_)))
    clear hK K
    (try simp only [Act.put, List.setIfInBounds_toArray, List.set_cons_zero, List.set_cons_succ])
    refine tk (v := ?_) 7 ⟨some 13, _, _, _, _, _⟩ rfl ?_ ?_
    rotate_left 2
    · (intro w hSw; (try dsimp only at hSw); go_simp; (try with_reducible rfl))
    (try simp only [Act.put, List.setIfInBounds_toArray, List.set_cons_zero, List.set_cons_succ])
    refine tk (v := ?_) 8 ⟨some 14, _, _, _, _, _⟩ rfl ?_ ?_
    rotate_left 2
    · (intro w hSw; (try dsimp only at hSw); go_simp; (try with_reducible rfl))
    (try simp only [Act.put, List.setIfInBounds_toArray, List.set_cons_zero, List.set_cons_succ])
    refine tk (v := ?_) 9 ⟨some 15, _, _, _, _, _⟩ rfl ?_ ?_
    rotate_left 2
    · (intro w hSw; (try dsimp only at hSw); go_simp; (try with_reducible rfl))
    (try simp only [Act.put, List.setIfInBounds_toArray, List.set_cons_zero, List.set_cons_succ])
    refine tk (v := ?_) 10 ⟨some 16, _, _, _, _, _⟩ rfl ?_ ?_
    rotate_left 2
    · (intro w hSw; (try dsimp only at hSw); go_simp; (try with_reducible rfl))
    (try simp only [Act.put, List.setIfInBounds_toArray, List.set_cons_zero, List.set_cons_succ])
    refine tk (v := ?_) 11 ⟨some 17, _, _, _, _, _⟩ rfl ?_ ?_
    rotate_left 2
    · (intro w hSw; (try dsimp only at hSw); go_simp; (try with_reducible rfl))
    (try simp only [Act.put, List.setIfInBounds_toArray, List.set_cons_zero, List.set_cons_succ])
    refine tk (v := ?_) 12 ⟨some 18, _, _, _, _, _⟩ rfl ?_ ?_
    rotate_left 2
    · (intro w hSw; (try dsimp only at hSw); go_simp; (try with_reducible rfl))
    (try simp only [Act.put, List.setIfInBounds_toArray, List.set_cons_zero, List.set_cons_succ])
    refine tk (v := ?_) 13 ⟨some 19, _, _, _, _, _⟩ rfl ?_ ?_
    rotate_left 2
    · (intro w hSw; (try dsimp only at hSw); go_simp; (try with_reducible rfl))
    (try simp only [Act.put, List.setIfInBounds_toArray, List.set_cons_zero, List.set_cons_succ])
    refine wpAnyH_ready (rs := [14]) (by kernel_rfl) (by simp) ?_
    refine AllReadyH.cons (o := ⟨some 20, _, _, _, _, _⟩) rfl (fun K hK => ?_) AllReadyH.nil
    go_simp
    (go_at_call 102; (with_reducible refine (spec_RatFromInt hx _ HIhx.out).mono ?_); rintro e w3 ⟨u3, v3, rfl, hb3, g3⟩; rw [SIhx.out]; obtain ⟨r3a, r3n, r3c, r3d, r3m, r3e, rfl, rfl⟩ := g3.sh; have G3 := Lib.hid (int_raw SIhx.out g3); clear g3; have HX3 : More ((w.alloc (.cells #[.int .i64 lx, .int .i64 ly, .int .i64 hx, .int .i64 hy] 86)).alloc (.cells #[.bool s.1.1, .slice sa sn sc, .slice sd sm se, .bool t.1.1, .slice ta tn tc, .slice td tm te] 89)) w3 := (Turns.more (by with_reducible repeat (first | exact Turns.refl _ _ | apply Turns.drew | apply Turns.drewN | apply Turns.alloc | refine Turns.via (by assumption) ?_))); have HB3 := HB _ HX3; have hz3 := More.size HX3; (try simp at hz3); have hb3 := hb3)
    refine hK.out _ _ ?_ (fun hHeld => ?_)
    · first | exact (by with_reducible repeat (first | exact Turns.refl _ _ | apply Turns.drew | apply Turns.drewN | apply Turns.alloc | refine Turns.setCell ?_ (by first | (left; simp; done) | (right; simp <;> omega)) _ | refine Turns.via (by assumption) ?_)) | exact (Turns.more (by with_reducible repeat (first | exact Turns.refl _ _ | apply Turns.drew | apply Turns.drewN | apply Turns.alloc | refine Turns.setCellR ?_ (by simp <;> omega) _ | refine Turns.via (by assumption) ?_)))
    clear hK K
    (try simp only [Act.put, List.setIfInBounds_toArray, List.set_cons_zero, List.set_cons_succ])
    refine wpAnyH_ready (rs := [15]) (by kernel_rfl) (by simp) ?_
    refine AllReadyH.cons (o := ⟨some 21, _, _, _, _, _⟩) rfl (fun K hK => ?_) AllReadyH.nil
    go_simp
    (go_at_call 96; (with_reducible refine (spec_RatCmpX s s.1.1 (.slice sa sn sc) (.slice sd sm se) (encR (frInt hx)) s2 (.slice r3a r3n r3c) (.slice r3d r3m r3e) _ (Ty.at_more Hs.out (Turns.more (by with_reducible repeat (first | exact Turns.refl _ _ | apply Turns.drew | apply Turns.drewN | apply Turns.alloc | refine Turns.via (by assumption) ?_)))) Ws.out (Ty.at_more G3.out (Turns.more (by with_reducible repeat (first | exact Turns.refl _ _ | apply Turns.drew | apply Turns.drewN | apply Turns.alloc | refine Turns.via (by assumption) ?_)))) WIhx.out).mono ?_); rintro e w4 ⟨rfl, hb4⟩; rw [D.out]; have HX4 : More ((w.alloc (.cells #[.int .i64 lx, .int .i64 ly, .int .i64 hx, .int .i64 hy] 86)).alloc (.cells #[.bool s.1.1, .slice sa sn sc, .slice sd sm se, .bool t.1.1, .slice ta tn tc, .slice td tm te] 89)) w4 := (Turns.more (by with_reducible repeat (first | exact Turns.refl _ _ | apply Turns.drew | apply Turns.drewN | apply Turns.alloc | refine Turns.via (by assumption) ?_))); have HB4 := HB _ HX4; have hz4 := More.size HX4; (try simp at hz4); have hb4 := hb4)
    refine hK.out _ _ ?_ (fun hHeld => ?_)
    · first | exact (by with_reducible repeat (first | exact Turns.refl _ _ | apply Turns.drew | apply Turns.drewN | apply Turns.alloc | refine Turns.setCell ?_ (by first | (left; simp; done) | (right; simp <;> omega)) _ | refine Turns.via (by assumption) ?_)) | exact (Turns.more (by with_reducible repeat (first | exact Turns.refl _ _ | apply Turns.drew | apply Turns.drewN | apply Turns.alloc | refine Turns.setCellR ?_ (by simp <;> omega) _ | refine Turns.via (by assumption) ?_)))
    clear hK K
    (try simp only [Act.put, List.setIfInBounds_toArray, List.set_cons_zero, List.set_cons_succ])
    refine tk (v := ?_) 16 ⟨some 22, _, _, _, _, _⟩ rfl ?_ ?_
    rotate_left 2
    · (intro w hSw; (try dsimp only at hSw); go_simp; (try with_reducible rfl))
    (try simp only [Act.put, List.setIfInBounds_toArray, List.set_cons_zero, List.set_cons_succ])
    refine tk (v := ?_) 17 ⟨some 23, _, _, _, _, _⟩ rfl ?_ ?_
    rotate_left 2
    · (intro w hSw; (try dsimp only at hSw); go_simp; (try with_reducible rfl))
    (try simp only [Act.put, List.setIfInBounds_toArray, List.set_cons_zero, List.set_cons_succ])
    refine tk (v := ?_) 18 ⟨some 5, _, _, _, _, _⟩ rfl ?_ ?_
    rotate_left 2
    · (intro w hSw; (try dsimp only at hSw); go_simp; (try with_reducible rfl))
    (try simp only [Act.put, List.setIfInBounds_toArray, List.set_cons_zero, List.set_cons_succ])
    refine wpAnyH_done (by kernel_rfl) ?_ _
    go_wp2_with fail
    refine wp_region_held_drew (S := (fun w' => Turns [] ((w.alloc (.cells #[.int .i64 lx, .int .i64 ly, .int .i64 hx, .int .i64 hy] 86)).alloc (.cells #[.bool s.1.1, .slice sa sn sc, .slice sd sm se, .bool t.1.1, .slice ta tn tc, .slice td tm te] 89)) w')) (by kernel_rfl) ?_ (fun hHeld => ?_)
    · first | exact (by with_reducible repeat (first | exact Turns.refl _ _ | apply Turns.drew | apply Turns.drewN | apply Turns.alloc | refine Turns.setCell ?_ (by first | (left; simp; done) | (right; simp <;> omega)) _ | refine Turns.via (by assumption) ?_)) | exact (Turns.more (by with_reducible repeat (first | exact Turns.refl _ _ | apply Turns.drew | apply Turns.drewN | apply Turns.alloc | refine Turns.setCellR ?_ (by simp <;> omega) _ | refine Turns.via (by assumption) ?_)))
    refine tk (v := ?_) 0 ⟨some 24, _, _, _, _, _⟩ rfl ?_ ?_
    rotate_left 2
    · (intro w hSw; (try dsimp only at hSw); go_simp; (try with_reducible rfl))
    (try simp only [Act.put, List.setIfInBounds_toArray, List.set_cons_zero, List.set_cons_succ])
    refine tk (v := ?_) 1 ⟨some 25, _, _, _, _, _⟩ rfl ?_ ?_
    rotate_left 2
    · (intro w hSw; (try dsimp only at hSw); go_simp; (try with_reducible rfl))
    (try simp only [Act.put, List.setIfInBounds_toArray, List.set_cons_zero, List.set_cons_succ])
    refine tk0 2 ⟨some 26, _, _, _, _, _⟩ rfl ?_
    (try simp only [Act.put, List.setIfInBounds_toArray, List.set_cons_zero, List.set_cons_succ])
    refine tk0 3 ⟨some 27, _, _, _, _, _⟩ rfl ?_
    (try simp only [Act.put, List.setIfInBounds_toArray, List.set_cons_zero, List.set_cons_succ])
    refine tk0 4 ⟨some 28, _, _, _, _, _⟩ rfl ?_
    (try simp only [Act.put, List.setIfInBounds_toArray, List.set_cons_zero, List.set_cons_succ])
    refine tk0 5 ⟨some 29, _, _, _, _, _⟩ rfl ?_
    (try simp only [Act.put, List.setIfInBounds_toArray, List.set_cons_zero, List.set_cons_succ])
    refine tk0 6 ⟨some 30, _, _, _, _, _⟩ rfl ?_
    (try simp only [Act.put, List.setIfInBounds_toArray, List.set_cons_zero, List.set_cons_succ])
    refine tk0 7 ⟨some 31, _, _, _, _, _⟩ rfl ?_
    (try simp only [Act.put, List.setIfInBounds_toArray, List.set_cons_zero, List.set_cons_succ])
    refine tk0 8 ⟨some 32, _, _, _, _, _⟩ rfl ?_
    (try simp only [Act.put, List.setIfInBounds_toArray, List.set_cons_zero, List.set_cons_succ])
    refine tk0 9 ⟨some 33, _, _, _, _, _⟩ rfl ?_
    (try simp only [Act.put, List.setIfInBounds_toArray, List.set_cons_zero, List.set_cons_succ])
    refine tk (v := ?_) 10 ⟨some 34, _, _, _, _, _⟩ rfl ?_ ?_
    rotate_left 2
    · (intro w hSw; (try dsimp only at hSw); go_simp; (try with_reducible rfl))
    (try simp only [Act.put, List.setIfInBounds_toArray, List.set_cons_zero, List.set_cons_succ])
    refine tk (v := ?_) 11 ⟨some 35, _, _, _, _, _⟩ rfl ?_ ?_
    rotate_left 2
    · (intro w hSw; (try dsimp only at hSw); go_simp; (try with_reducible rfl))
    (try simp only [Act.put, List.setIfInBounds_toArray, List.set_cons_zero, List.set_cons_succ])
    refine tk0 12 ⟨some 36, _, _, _, _, _⟩ rfl ?_
    (try simp only [Act.put, List.setIfInBounds_toArray, List.set_cons_zero, List.set_cons_succ])
    refine tk0 13 ⟨some 37, _, _, _, _, _⟩ rfl ?_
    (try simp only [Act.put, List.setIfInBounds_toArray, List.set_cons_zero, List.set_cons_succ])
    refine tk0 14 ⟨some 38, _, _, _, _, _⟩ rfl ?_
    (try simp only [Act.put, List.setIfInBounds_toArray, List.set_cons_zero, List.set_cons_succ])
    refine tk0 15 ⟨some 39, _, _, _, _, _⟩ rfl ?_
    (try simp only [Act.put, List.setIfInBounds_toArray, List.set_cons_zero, List.set_cons_succ])
    refine tk0 16 ⟨some 40, _, _, _, _, _⟩ rfl ?_
    (try simp only [Act.put, List.setIfInBounds_toArray, List.set_cons_zero, List.set_cons_succ])
    refine tk0 17 ⟨some 41, _, _, _, _, _⟩ rfl ?_
    (try simp only [Act.put, List.setIfInBounds_toArray, List.set_cons_zero, List.set_cons_succ])
    refine tk0 18 ⟨some 42, _, _, _, _, _⟩ rfl ?_
    (try simp only [Act.put, List.setIfInBounds_toArray, List.set_cons_zero, List.set_cons_succ])
    refine tk0 19 ⟨some 43, _, _, _, _, _⟩ rfl ?_
    (try simp only [Act.put, List.setIfInBounds_toArray, List.set_cons_zero, List.set_cons_succ])
    refine tk (v := ?_) 20 ⟨some 44, _, _, _, _, _⟩ rfl ?_ ?_
    rotate_left 2
    · (intro w hSw; (try dsimp only at hSw); go_simp; (try with_reducible rfl))
    (try simp only [Act.put, List.setIfInBounds_toArray, List.set_cons_zero, List.set_cons_succ])
    refine tk (v := ?_) 21 ⟨some 4, _, _, _, _, _⟩ rfl ?_ ?_
    rotate_left 2
    · (intro w hSw; (try dsimp only at hSw); go_simp; (try with_reducible rfl))
    (try simp only [Act.put, List.setIfInBounds_toArray, List.set_cons_zero, List.set_cons_succ])
    refine wpAnyH_done (by kernel_rfl) ?_ _
    go_wp2_with fail
    go_ret
    exact ⟨ret_bool (by first | (simp [inBoxB, C.out, D.out, E.out, F.out]; done) | (simp [inBoxB, C.out, D.out, E.out, F.out] <;> omega)), (Turns.more (by with_reducible repeat (first | exact Turns.refl _ _ | apply Turns.drew | apply Turns.drewN | apply Turns.alloc | refine Turns.via (by assumption) ?_)))⟩
  have hDd : decide (d0 < 0) = true := decide_eq_true (by omega)
  rcases (show 0 < e0 ∨ e0 ≤ 0 by omega) with hE | hE
  rotate_left
  · have hEd : decide (0 < e0) = false := decide_eq_false (by omega)
    have HX : More ((w.alloc (.cells #[.int .i64 lx, .int .i64 ly, .int .i64 hx, .int .i64 hy] 86)).alloc (.cells #[.bool s.1.1, .slice sa sn sc, .slice sd sm se, .bool t.1.1, .slice ta tn tc, .slice td tm te] 89)) ((w.alloc (.cells #[.int .i64 lx, .int .i64 ly, .int .i64 hx, .int .i64 hy] 86)).alloc (.cells #[.bool s.1.1, .slice sa sn sc, .slice sd sm se, .bool t.1.1, .slice ta tn tc, .slice td tm te] 89)) := More.refl _
    have HB : ∀ w', More ((w.alloc (.cells #[.int .i64 lx, .int .i64 ly, .int .i64 hx, .int .i64 hy] 86)).alloc (.cells #[.bool s.1.1, .slice sa sn sc, .slice sd sm se, .bool t.1.1, .slice ta tn tc, .slice td tm te] 89)) w' → w'.cell? ⟨w.heap.size, 0, none⟩ = some (.int .i64 lx) ∧ w'.cell? ⟨w.heap.size, 1, none⟩ = some (.int .i64 ly) ∧ w'.cell? ⟨w.heap.size, 2, none⟩ = some (.int .i64 hx) ∧ w'.cell? ⟨w.heap.size, 3, none⟩ = some (.int .i64 hy) ∧ (∀ j, w'.frozen? ⟨w.heap.size, j, none⟩ = false) ∧ w'.cell? ⟨w.heap.size + 1, 0, none⟩ = some (.bool s.1.1) ∧ w'.cell? ⟨w.heap.size + 1, 1, none⟩ = some (.slice sa sn sc) ∧ w'.cell? ⟨w.heap.size + 1, 2, none⟩ = some (.slice sd sm se) ∧ w'.cell? ⟨w.heap.size + 1, 3, none⟩ = some (.bool t.1.1) ∧ w'.cell? ⟨w.heap.size + 1, 4, none⟩ = some (.slice ta tn tc) ∧ w'.cell? ⟨w.heap.size + 1, 5, none⟩ = some (.slice td tm te) ∧ (∀ j, w'.frozen? ⟨w.heap.size + 1, j, none⟩ = false) := fun w' h => ⟨box_new (by simp) (More.un h) 0, box_new (by simp) (More.un h) 1, box_new (by simp) (More.un h) 2, box_new (by simp) (More.un h) 3, fun j => box_free (by simp) (More.un h) j, box_new (by simp) h 0, box_new (by simp) h 1, box_new (by simp) h 2, box_new (by simp) h 3, box_new (by simp) h 4, box_new (by simp) h 5, fun j => box_free (by simp) h j⟩
    have HC := fun (w' : World) (h : Turns [] ((w.alloc (.cells #[.int .i64 lx, .int .i64 ly, .int .i64 hx, .int .i64 hy] 86)).alloc (.cells #[.bool s.1.1, .slice sa sn sc, .slice sd sm se, .bool t.1.1, .slice ta tn tc, .slice td tm te] 89)) w') => HB w' (Turns.more h)
    go_enter Try.func50, Try.ntmps50
    go_wp2_with fail
    refine wp_region_held_drew (S := (fun w' => Turns [] ((w.alloc (.cells #[.int .i64 lx, .int .i64 ly, .int .i64 hx, .int .i64 hy] 86)).alloc (.cells #[.bool s.1.1, .slice sa sn sc, .slice sd sm se, .bool t.1.1, .slice ta tn tc, .slice td tm te] 89)) w')) (by kernel_rfl) ?_ (fun hHeld => ?_)
    · first | exact (by with_reducible repeat (first | exact Turns.refl _ _ | apply Turns.drew | apply Turns.drewN | apply Turns.alloc | refine Turns.setCell ?_ (by first | (left; simp; done) | (right; simp <;> omega)) _ | refine Turns.via (by assumption) ?_)) | exact (Turns.more (by with_reducible repeat (first | exact Turns.refl _ _ | apply Turns.drew | apply Turns.drewN | apply Turns.alloc | refine Turns.setCellR ?_ (by simp <;> omega) _ | refine Turns.via (by assumption) ?_)))
    refine tk (v := ?_) 0 ⟨some 6, _, _, _, _, _⟩ rfl ?_ ?_
    rotate_left 2
    · (intro w hSw; (try dsimp only at hSw); go_simp; (try with_reducible rfl))
    (try simp only [Act.put, List.setIfInBounds_toArray, List.set_cons_zero, List.set_cons_succ])
    refine tk (v := ?_) 1 ⟨some 7, _, _, _, _, _⟩ rfl ?_ ?_
    rotate_left 2
    · (intro w hSw; (try dsimp only at hSw); go_simp; (try with_reducible rfl))
    (try simp only [Act.put, List.setIfInBounds_toArray, List.set_cons_zero, List.set_cons_succ])
    refine tk (v := ?_) 2 ⟨some 8, _, _, _, _, _⟩ rfl ?_ ?_
    rotate_left 2
    · (intro w hSw; (try dsimp only at hSw); go_simp; (try with_reducible rfl))
    (try simp only [Act.put, List.setIfInBounds_toArray, List.set_cons_zero, List.set_cons_succ])
    refine tk (v := ?_) 3 ⟨some 9, _, _, _, _, _⟩ rfl ?_ ?_
    rotate_left 2
    · (intro w hSw; (try dsimp only at hSw); go_simp; (try with_reducible rfl))
    (try simp only [Act.put, List.setIfInBounds_toArray, List.set_cons_zero, List.set_cons_succ])
    refine tk (v := ?_) 4 ⟨some 10, _, _, _, _, _⟩ rfl ?_ ?_
    rotate_left 2
    · (intro w hSw; (try dsimp only at hSw); go_simp; (try with_reducible rfl))
    (try simp only [Act.put, List.setIfInBounds_toArray, List.set_cons_zero, List.set_cons_succ])
    refine wpAnyH_ready (rs := [5]) (by kernel_rfl) (by simp) ?_
    refine AllReadyH.cons (o := ⟨some 11, _, _, _, _, _⟩) rfl (fun K hK => ?_) AllReadyH.nil
    go_simp
    (go_at_call 102; (with_reducible refine (spec_RatFromInt lx _ HIlx.out).mono ?_); rintro e w1 ⟨u1, v1, rfl, hb1, g1⟩; rw [SIlx.out]; obtain ⟨r1a, r1n, r1c, r1d, r1m, r1e, rfl, rfl⟩ := g1.sh; have G1 := Lib.hid (int_raw SIlx.out g1); clear g1; have HX1 : More ((w.alloc (.cells #[.int .i64 lx, .int .i64 ly, .int .i64 hx, .int .i64 hy] 86)).alloc (.cells #[.bool s.1.1, .slice sa sn sc, .slice sd sm se, .bool t.1.1, .slice ta tn tc, .slice td tm te] 89)) w1 := (Turns.more (by with_reducible repeat (first | exact Turns.refl _ _ | apply Turns.drew | apply Turns.drewN | apply Turns.alloc | refine Turns.via (by assumption) ?_))); have HB1 := HB _ HX1; have hz1 := More.size HX1; (try simp at hz1); have hb1 := hb1)
    refine hK.out _ _ ?_ (fun hHeld => ?_)
    · first | exact (by with_reducible repeat (first | exact Turns.refl _ _ | apply Turns.drew | apply Turns.drewN | apply Turns.alloc | refine Turns.setCell ?_ (by first | (left; simp; done) | (right; simp <;> omega)) _ | refine Turns.via (by assumption) ?_)) | exact (Turns.more (by with_reducible repeat (first | exact Turns.refl _ _ | apply Turns.drew | apply Turns.drewN | apply Turns.alloc | refine Turns.setCellR ?_ (by simp <;> omega) _ | refine Turns.via (by assumption) ?_)))
    clear hK K
    (try simp only [Act.put, List.setIfInBounds_toArray, List.set_cons_zero, List.set_cons_succ])
    refine wpAnyH_ready (rs := [6]) (by kernel_rfl) (by simp) ?_
    refine AllReadyH.cons (o := ⟨some 12, _, _, _, _, _⟩) rfl (fun K hK => ?_) AllReadyH.nil
    go_simp
    (go_at_call 96; (with_reducible refine (spec_RatCmpX s s.1.1 (.slice sa sn sc) (.slice sd sm se) (encR (frInt lx)) s1 (.slice r1a r1n r1c) (.slice r1d r1m r1e) _ (Ty.at_more Hs.out (Turns.more (by with_reducible repeat (first | exact Turns.refl _ _ | apply Turns.drew | apply Turns.drewN | apply Turns.alloc | refine Turns.via (by assumption) ?_)))) Ws.out (Ty.at_more G1.out (Turns.more (by with_reducible repeat (first | exact Turns.refl _ _ | apply Turns.drew | apply Turns.drewN | apply Turns.alloc | refine Turns.via (by assumption) ?_)))) WIlx.out).mono ?_); rintro e w2 ⟨rfl, hb2⟩; rw [C.out]; have HX2 : More ((w.alloc (.cells #[.int .i64 lx, .int .i64 ly, .int .i64 hx, .int .i64 hy] 86)).alloc (.cells #[.bool s.1.1, .slice sa sn sc, .slice sd sm se, .bool t.1.1, .slice ta tn tc, .slice td tm te] 89)) w2 := (Turns.more (by with_reducible repeat (first | exact Turns.refl _ _ | apply Turns.drew | apply Turns.drewN | apply Turns.alloc | refine Turns.via (by assumption) ?_))); have HB2 := HB _ HX2; have hz2 := More.size HX2; (try simp at hz2); have hb2 := hb2)
    refine hK.out _ _ ?_ (fun hHeld => ?_)
    · first | exact (by with_reducible repeat (first | exact Turns.refl _ _ | apply Turns.drew | apply Turns.drewN | apply Turns.alloc | refine Turns.setCell ?_ (by first | (left; simp; done) | (right; simp <;> omega)) _ | refine Turns.via (by assumption) ?_)) | exact (Turns.more (by with_reducible repeat (first | exact Turns.refl _ _ | apply Turns.drew | apply Turns.drewN | apply Turns.alloc | refine Turns.setCellR ?_ (by simp <;> omega) _ | refine Turns.via (by assumption) ?_)))
    clear hK K
    (try simp only [Act.put, List.setIfInBounds_toArray, List.set_cons_zero, List.set_cons_succ])
    refine tk (v := ?_) 7 ⟨some 13, _, _, _, _, _⟩ rfl ?_ ?_
    rotate_left 2
    · (intro w hSw; (try dsimp only at hSw); go_simp; (try with_reducible rfl))
    (try simp only [Act.put, List.setIfInBounds_toArray, List.set_cons_zero, List.set_cons_succ])
    refine tk (v := ?_) 8 ⟨some 14, _, _, _, _, _⟩ rfl ?_ ?_
    rotate_left 2
    · (intro w hSw; (try dsimp only at hSw); go_simp; (try with_reducible rfl))
    (try simp only [Act.put, List.setIfInBounds_toArray, List.set_cons_zero, List.set_cons_succ])
    refine tk (v := ?_) 9 ⟨some 15, _, _, _, _, _⟩ rfl ?_ ?_
    rotate_left 2
    · (intro w hSw; (try dsimp only at hSw); go_simp; (try with_reducible rfl))
    (try simp only [Act.put, List.setIfInBounds_toArray, List.set_cons_zero, List.set_cons_succ])
    refine tk (v := ?_) 10 ⟨some 16, _, _, _, _, _⟩ rfl ?_ ?_
    rotate_left 2
    · (intro w hSw; (try dsimp only at hSw); go_simp; (try with_reducible rfl))
    (try simp only [Act.put, List.setIfInBounds_toArray, List.set_cons_zero, List.set_cons_succ])
    refine tk (v := ?_) 11 ⟨some 17, _, _, _, _, _⟩ rfl ?_ ?_
    rotate_left 2
    · (intro w hSw; (try dsimp only at hSw); go_simp; (try with_reducible rfl))
    (try simp only [Act.put, List.setIfInBounds_toArray, List.set_cons_zero, List.set_cons_succ])
    refine tk (v := ?_) 12 ⟨some 18, _, _, _, _, _⟩ rfl ?_ ?_
    rotate_left 2
    · (intro w hSw; (try dsimp only at hSw); go_simp; (try with_reducible rfl))
    (try simp only [Act.put, List.setIfInBounds_toArray, List.set_cons_zero, List.set_cons_succ])
    refine tk (v := ?_) 13 ⟨some 19, _, _, _, _, _⟩ rfl ?_ ?_
    rotate_left 2
    · (intro w hSw; (try dsimp only at hSw); go_simp; (try with_reducible rfl))
    (try simp only [Act.put, List.setIfInBounds_toArray, List.set_cons_zero, List.set_cons_succ])
    refine wpAnyH_ready (rs := [14]) (by kernel_rfl) (by simp) ?_
    refine AllReadyH.cons (o := ⟨some 20, _, _, _, _, _⟩) rfl (fun K hK => ?_) AllReadyH.nil
    go_simp
    (go_at_call 102; (with_reducible refine (spec_RatFromInt hx _ HIhx.out).mono ?_); rintro e w3 ⟨u3, v3, rfl, hb3, g3⟩; rw [SIhx.out]; obtain ⟨r3a, r3n, r3c, r3d, r3m, r3e, rfl, rfl⟩ := g3.sh; have G3 := Lib.hid (int_raw SIhx.out g3); clear g3; have HX3 : More ((w.alloc (.cells #[.int .i64 lx, .int .i64 ly, .int .i64 hx, .int .i64 hy] 86)).alloc (.cells #[.bool s.1.1, .slice sa sn sc, .slice sd sm se, .bool t.1.1, .slice ta tn tc, .slice td tm te] 89)) w3 := (Turns.more (by with_reducible repeat (first | exact Turns.refl _ _ | apply Turns.drew | apply Turns.drewN | apply Turns.alloc | refine Turns.via (by assumption) ?_))); have HB3 := HB _ HX3; have hz3 := More.size HX3; (try simp at hz3); have hb3 := hb3)
    refine hK.out _ _ ?_ (fun hHeld => ?_)
    · first | exact (by with_reducible repeat (first | exact Turns.refl _ _ | apply Turns.drew | apply Turns.drewN | apply Turns.alloc | refine Turns.setCell ?_ (by first | (left; simp; done) | (right; simp <;> omega)) _ | refine Turns.via (by assumption) ?_)) | exact (Turns.more (by with_reducible repeat (first | exact Turns.refl _ _ | apply Turns.drew | apply Turns.drewN | apply Turns.alloc | refine Turns.setCellR ?_ (by simp <;> omega) _ | refine Turns.via (by assumption) ?_)))
    clear hK K
    (try simp only [Act.put, List.setIfInBounds_toArray, List.set_cons_zero, List.set_cons_succ])
    refine wpAnyH_ready (rs := [15]) (by kernel_rfl) (by simp) ?_
    refine AllReadyH.cons (o := ⟨some 21, _, _, _, _, _⟩) rfl (fun K hK => ?_) AllReadyH.nil
    go_simp
    (go_at_call 96; (with_reducible refine (spec_RatCmpX s s.1.1 (.slice sa sn sc) (.slice sd sm se) (encR (frInt hx)) s2 (.slice r3a r3n r3c) (.slice r3d r3m r3e) _ (Ty.at_more Hs.out (Turns.more (by with_reducible repeat (first | exact Turns.refl _ _ | apply Turns.drew | apply Turns.drewN | apply Turns.alloc | refine Turns.via (by assumption) ?_)))) Ws.out (Ty.at_more G3.out (Turns.more (by with_reducible repeat (first | exact Turns.refl _ _ | apply Turns.drew | apply Turns.drewN | apply Turns.alloc | refine Turns.via (by assumption) ?_)))) WIhx.out).mono ?_); rintro e w4 ⟨rfl, hb4⟩; rw [D.out]; have HX4 : More ((w.alloc (.cells #[.int .i64 lx, .int .i64 ly, .int .i64 hx, .int .i64 hy] 86)).alloc (.cells #[.bool s.1.1, .slice sa sn sc, .slice sd sm se, .bool t.1.1, .slice ta tn tc, .slice td tm te] 89)) w4 := (Turns.more (by with_reducible repeat (first | exact Turns.refl _ _ | apply Turns.drew | apply Turns.drewN | apply Turns.alloc | refine Turns.via (by assumption) ?_))); have HB4 := HB _ HX4; have hz4 := More.size HX4; (try simp at hz4); have hb4 := hb4)
    refine hK.out _ _ ?_ (fun hHeld => ?_)
    · first | exact (by with_reducible repeat (first | exact Turns.refl _ _ | apply Turns.drew | apply Turns.drewN | apply Turns.alloc | refine Turns.setCell ?_ (by first | (left; simp; done) | (right; simp <;> omega)) _ | refine Turns.via (by assumption) ?_)) | exact (Turns.more (by with_reducible repeat (first | exact Turns.refl _ _ | apply Turns.drew | apply Turns.drewN | apply Turns.alloc | refine Turns.setCellR ?_ (by simp <;> omega) _ | refine Turns.via (by assumption) ?_)))
    clear hK K
    (try simp only [Act.put, List.setIfInBounds_toArray, List.set_cons_zero, List.set_cons_succ])
    refine tk (v := ?_) 16 ⟨some 22, _, _, _, _, _⟩ rfl ?_ ?_
    rotate_left 2
    · (intro w hSw; (try dsimp only at hSw); go_simp; (try with_reducible rfl))
    (try simp only [Act.put, List.setIfInBounds_toArray, List.set_cons_zero, List.set_cons_succ])
    refine tk (v := ?_) 17 ⟨some 23, _, _, _, _, _⟩ rfl ?_ ?_
    rotate_left 2
    · (intro w hSw; (try dsimp only at hSw); go_simp; (try with_reducible rfl))
    (try simp only [Act.put, List.setIfInBounds_toArray, List.set_cons_zero, List.set_cons_succ])
    refine tk (v := ?_) 18 ⟨some 5, _, _, _, _, _⟩ rfl ?_ ?_
    rotate_left 2
    · (intro w hSw; (try dsimp only at hSw); go_simp; (try with_reducible rfl))
    (try simp only [Act.put, List.setIfInBounds_toArray, List.set_cons_zero, List.set_cons_succ])
    refine wpAnyH_done (by kernel_rfl) ?_ _
    go_wp2_with fail
    refine wp_region_held_drew (S := (fun w' => Turns [] ((w.alloc (.cells #[.int .i64 lx, .int .i64 ly, .int .i64 hx, .int .i64 hy] 86)).alloc (.cells #[.bool s.1.1, .slice sa sn sc, .slice sd sm se, .bool t.1.1, .slice ta tn tc, .slice td tm te] 89)) w')) (by kernel_rfl) ?_ (fun hHeld => ?_)
    · first | exact (by with_reducible repeat (first | exact Turns.refl _ _ | apply Turns.drew | apply Turns.drewN | apply Turns.alloc | refine Turns.setCell ?_ (by first | (left; simp; done) | (right; simp <;> omega)) _ | refine Turns.via (by assumption) ?_)) | exact (Turns.more (by with_reducible repeat (first | exact Turns.refl _ _ | apply Turns.drew | apply Turns.drewN | apply Turns.alloc | refine Turns.setCellR ?_ (by simp <;> omega) _ | refine Turns.via (by assumption) ?_)))
    refine tk (v := ?_) 0 ⟨some 24, _, _, _, _, _⟩ rfl ?_ ?_
    rotate_left 2
    · (intro w hSw; (try dsimp only at hSw); go_simp; (try with_reducible rfl))
    (try simp only [Act.put, List.setIfInBounds_toArray, List.set_cons_zero, List.set_cons_succ])
    refine tk (v := ?_) 1 ⟨some 25, _, _, _, _, _⟩ rfl ?_ ?_
    rotate_left 2
    · (intro w hSw; (try dsimp only at hSw); go_simp; (try with_reducible rfl))
    (try simp only [Act.put, List.setIfInBounds_toArray, List.set_cons_zero, List.set_cons_succ])
    refine tk (v := ?_) 2 ⟨some 26, _, _, _, _, _⟩ rfl ?_ ?_
    rotate_left 2
    · (intro w hSw; (try dsimp only at hSw); go_simp; (try with_reducible rfl))
    (try simp only [Act.put, List.setIfInBounds_toArray, List.set_cons_zero, List.set_cons_succ])
    refine tk (v := ?_) 3 ⟨some 27, _, _, _, _, _⟩ rfl ?_ ?_
    rotate_left 2
    · (intro w hSw; (try dsimp only at hSw); go_simp; (try with_reducible rfl))
    (try simp only [Act.put, List.setIfInBounds_toArray, List.set_cons_zero, List.set_cons_succ])
    refine tk (v := ?_) 4 ⟨some 28, _, _, _, _, _⟩ rfl ?_ ?_
    rotate_left 2
    · (intro w hSw; (try dsimp only at hSw); go_simp; (try with_reducible rfl))
    (try simp only [Act.put, List.setIfInBounds_toArray, List.set_cons_zero, List.set_cons_succ])
    refine tk (v := ?_) 5 ⟨some 29, _, _, _, _, _⟩ rfl ?_ ?_
    rotate_left 2
    · (intro w hSw; (try dsimp only at hSw); go_simp; (try with_reducible rfl))
    (try simp only [Act.put, List.setIfInBounds_toArray, List.set_cons_zero, List.set_cons_succ])
    refine tk (v := ?_) 6 ⟨some 30, _, _, _, _, _⟩ rfl ?_ ?_
    rotate_left 2
    · (intro w hSw; (try dsimp only at hSw); go_simp; (try with_reducible rfl))
    (try simp only [Act.put, List.setIfInBounds_toArray, List.set_cons_zero, List.set_cons_succ])
    refine wpAnyH_ready (rs := [7]) (by kernel_rfl) (by simp) ?_
    refine AllReadyH.cons (o := ⟨some 31, _, _, _, _, _⟩) rfl (fun K hK => ?_) AllReadyH.nil
    go_simp
    (go_at_call 102; (with_reducible refine (spec_RatFromInt ly _ HIly.out).mono ?_); rintro e w5 ⟨u5, v5, rfl, hb5, g5⟩; rw [SIly.out]; obtain ⟨r5a, r5n, r5c, r5d, r5m, r5e, rfl, rfl⟩ := g5.sh; have G5 := Lib.hid (int_raw SIly.out g5); clear g5; have HX5 : More ((w.alloc (.cells #[.int .i64 lx, .int .i64 ly, .int .i64 hx, .int .i64 hy] 86)).alloc (.cells #[.bool s.1.1, .slice sa sn sc, .slice sd sm se, .bool t.1.1, .slice ta tn tc, .slice td tm te] 89)) w5 := (Turns.more (by with_reducible repeat (first | exact Turns.refl _ _ | apply Turns.drew | apply Turns.drewN | apply Turns.alloc | refine Turns.via (by assumption) ?_))); have HB5 := HB _ HX5; have hz5 := More.size HX5; (try simp at hz5); have hb5 := hb5)
    refine hK.out _ _ ?_ (fun hHeld => ?_)
    · first | exact (by with_reducible repeat (first | exact Turns.refl _ _ | apply Turns.drew | apply Turns.drewN | apply Turns.alloc | refine Turns.setCell ?_ (by first | (left; simp; done) | (right; simp <;> omega)) _ | refine Turns.via (by assumption) ?_)) | exact (Turns.more (by with_reducible repeat (first | exact Turns.refl _ _ | apply Turns.drew | apply Turns.drewN | apply Turns.alloc | refine Turns.setCellR ?_ (by simp <;> omega) _ | refine Turns.via (by assumption) ?_)))
    clear hK K
    (try simp only [Act.put, List.setIfInBounds_toArray, List.set_cons_zero, List.set_cons_succ])
    refine wpAnyH_ready (rs := [8]) (by kernel_rfl) (by simp) ?_
    refine AllReadyH.cons (o := ⟨some 32, _, _, _, _, _⟩) rfl (fun K hK => ?_) AllReadyH.nil
    go_simp
    (go_at_call 96; (with_reducible refine (spec_RatCmpX t t.1.1 (.slice ta tn tc) (.slice td tm te) (encR (frInt ly)) s3 (.slice r5a r5n r5c) (.slice r5d r5m r5e) _ (Ty.at_more Ht.out (Turns.more (by with_reducible repeat (first | exact Turns.refl _ _ | apply Turns.drew | apply Turns.drewN | apply Turns.alloc | refine Turns.via (by assumption) ?_)))) Wt.out (Ty.at_more G5.out (Turns.more (by with_reducible repeat (first | exact Turns.refl _ _ | apply Turns.drew | apply Turns.drewN | apply Turns.alloc | refine Turns.via (by assumption) ?_)))) WIly.out).mono ?_); rintro e w6 ⟨rfl, hb6⟩; rw [E.out]; have HX6 : More ((w.alloc (.cells #[.int .i64 lx, .int .i64 ly, .int .i64 hx, .int .i64 hy] 86)).alloc (.cells #[.bool s.1.1, .slice sa sn sc, .slice sd sm se, .bool t.1.1, .slice ta tn tc, .slice td tm te] 89)) w6 := (Turns.more (by with_reducible repeat (first | exact Turns.refl _ _ | apply Turns.drew | apply Turns.drewN | apply Turns.alloc | refine Turns.via (by assumption) ?_))); have HB6 := HB _ HX6; have hz6 := More.size HX6; (try simp at hz6); have hb6 := hb6)
    refine hK.out _ _ ?_ (fun hHeld => ?_)
    · first | exact (by with_reducible repeat (first | exact Turns.refl _ _ | apply Turns.drew | apply Turns.drewN | apply Turns.alloc | refine Turns.setCell ?_ (by first | (left; simp; done) | (right; simp <;> omega)) _ | refine Turns.via (by assumption) ?_)) | exact (Turns.more (by with_reducible repeat (first | exact Turns.refl _ _ | apply Turns.drew | apply Turns.drewN | apply Turns.alloc | refine Turns.setCellR ?_ (by simp <;> omega) _ | refine Turns.via (by assumption) ?_)))
    clear hK K
    (try simp only [Act.put, List.setIfInBounds_toArray, List.set_cons_zero, List.set_cons_succ])
    refine tk (v := ?_) 9 ⟨some 33, _, _, _, _, _⟩ rfl ?_ ?_
    rotate_left 2
    · (intro w hSw; (try dsimp only at hSw); go_simp; (try with_reducible rfl))
    (try simp only [Act.put, List.setIfInBounds_toArray, List.set_cons_zero, List.set_cons_succ])
    refine tk (v := ?_) 10 ⟨some 34, _, _, _, _, _⟩ rfl ?_ ?_
    rotate_left 2
    · (intro w hSw; (try dsimp only at hSw); go_simp; (try with_reducible rfl))
    (try simp only [Act.put, List.setIfInBounds_toArray, List.set_cons_zero, List.set_cons_succ])
    refine tk (v := ?_) 11 ⟨some 35, _, _, _, _, _⟩ rfl ?_ ?_
    rotate_left 2
    · (intro w hSw; (try dsimp only at hSw); go_simp; (try with_reducible rfl))
    (try simp only [Act.put, List.setIfInBounds_toArray, List.set_cons_zero, List.set_cons_succ])
    refine tk0 12 ⟨some 36, _, _, _, _, _⟩ rfl ?_
    (try simp only [Act.put, List.setIfInBounds_toArray, List.set_cons_zero, List.set_cons_succ])
    refine tk0 13 ⟨some 37, _, _, _, _, _⟩ rfl ?_
    (try simp only [Act.put, List.setIfInBounds_toArray, List.set_cons_zero, List.set_cons_succ])
    refine tk0 14 ⟨some 38, _, _, _, _, _⟩ rfl ?_
    (try simp only [Act.put, List.setIfInBounds_toArray, List.set_cons_zero, List.set_cons_succ])
    refine tk0 15 ⟨some 39, _, _, _, _, _⟩ rfl ?_
    (try simp only [Act.put, List.setIfInBounds_toArray, List.set_cons_zero, List.set_cons_succ])
    refine tk0 16 ⟨some 40, _, _, _, _, _⟩ rfl ?_
    (try simp only [Act.put, List.setIfInBounds_toArray, List.set_cons_zero, List.set_cons_succ])
    refine tk0 17 ⟨some 41, _, _, _, _, _⟩ rfl ?_
    (try simp only [Act.put, List.setIfInBounds_toArray, List.set_cons_zero, List.set_cons_succ])
    refine tk0 18 ⟨some 42, _, _, _, _, _⟩ rfl ?_
    (try simp only [Act.put, List.setIfInBounds_toArray, List.set_cons_zero, List.set_cons_succ])
    refine tk0 19 ⟨some 43, _, _, _, _, _⟩ rfl ?_
    (try simp only [Act.put, List.setIfInBounds_toArray, List.set_cons_zero, List.set_cons_succ])
    refine tk (v := ?_) 20 ⟨some 44, _, _, _, _, _⟩ rfl ?_ ?_
    rotate_left 2
    · (intro w hSw; (try dsimp only at hSw); go_simp; (try with_reducible rfl))
    (try simp only [Act.put, List.setIfInBounds_toArray, List.set_cons_zero, List.set_cons_succ])
    refine tk (v := ?_) 21 ⟨some 4, _, _, _, _, _⟩ rfl ?_ ?_
    rotate_left 2
    · (intro w hSw; (try dsimp only at hSw); go_simp; (try with_reducible rfl))
    (try simp only [Act.put, List.setIfInBounds_toArray, List.set_cons_zero, List.set_cons_succ])
    refine wpAnyH_done (by kernel_rfl) ?_ _
    go_wp2_with fail
    go_ret
    exact ⟨ret_bool (by first | (simp [inBoxB, C.out, D.out, E.out, F.out]; done) | (simp [inBoxB, C.out, D.out, E.out, F.out] <;> omega)), (Turns.more (by with_reducible repeat (first | exact Turns.refl _ _ | apply Turns.drew | apply Turns.drewN | apply Turns.alloc | refine Turns.via (by assumption) ?_)))⟩
  have hEd : decide (0 < e0) = true := decide_eq_true (by omega)
  rcases (show f0 < 0 ∨ 0 ≤ f0 by omega) with hF | hF
  rotate_left
  · have hFd : decide (f0 < 0) = false := decide_eq_false (by omega)
    have HX : More ((w.alloc (.cells #[.int .i64 lx, .int .i64 ly, .int .i64 hx, .int .i64 hy] 86)).alloc (.cells #[.bool s.1.1, .slice sa sn sc, .slice sd sm se, .bool t.1.1, .slice ta tn tc, .slice td tm te] 89)) ((w.alloc (.cells #[.int .i64 lx, .int .i64 ly, .int .i64 hx, .int .i64 hy] 86)).alloc (.cells #[.bool s.1.1, .slice sa sn sc, .slice sd sm se, .bool t.1.1, .slice ta tn tc, .slice td tm te] 89)) := More.refl _
    have HB : ∀ w', More ((w.alloc (.cells #[.int .i64 lx, .int .i64 ly, .int .i64 hx, .int .i64 hy] 86)).alloc (.cells #[.bool s.1.1, .slice sa sn sc, .slice sd sm se, .bool t.1.1, .slice ta tn tc, .slice td tm te] 89)) w' → w'.cell? ⟨w.heap.size, 0, none⟩ = some (.int .i64 lx) ∧ w'.cell? ⟨w.heap.size, 1, none⟩ = some (.int .i64 ly) ∧ w'.cell? ⟨w.heap.size, 2, none⟩ = some (.int .i64 hx) ∧ w'.cell? ⟨w.heap.size, 3, none⟩ = some (.int .i64 hy) ∧ (∀ j, w'.frozen? ⟨w.heap.size, j, none⟩ = false) ∧ w'.cell? ⟨w.heap.size + 1, 0, none⟩ = some (.bool s.1.1) ∧ w'.cell? ⟨w.heap.size + 1, 1, none⟩ = some (.slice sa sn sc) ∧ w'.cell? ⟨w.heap.size + 1, 2, none⟩ = some (.slice sd sm se) ∧ w'.cell? ⟨w.heap.size + 1, 3, none⟩ = some (.bool t.1.1) ∧ w'.cell? ⟨w.heap.size + 1, 4, none⟩ = some (.slice ta tn tc) ∧ w'.cell? ⟨w.heap.size + 1, 5, none⟩ = some (.slice td tm te) ∧ (∀ j, w'.frozen? ⟨w.heap.size + 1, j, none⟩ = false) := fun w' h => ⟨box_new (by simp) (More.un h) 0, box_new (by simp) (More.un h) 1, box_new (by simp) (More.un h) 2, box_new (by simp) (More.un h) 3, fun j => box_free (by simp) (More.un h) j, box_new (by simp) h 0, box_new (by simp) h 1, box_new (by simp) h 2, box_new (by simp) h 3, box_new (by simp) h 4, box_new (by simp) h 5, fun j => box_free (by simp) h j⟩
    have HC := fun (w' : World) (h : Turns [] ((w.alloc (.cells #[.int .i64 lx, .int .i64 ly, .int .i64 hx, .int .i64 hy] 86)).alloc (.cells #[.bool s.1.1, .slice sa sn sc, .slice sd sm se, .bool t.1.1, .slice ta tn tc, .slice td tm te] 89)) w') => HB w' (Turns.more h)
    go_enter Try.func50, Try.ntmps50
    go_wp2_with fail
    refine wp_region_held_drew (S := (fun w' => Turns [] ((w.alloc (.cells #[.int .i64 lx, .int .i64 ly, .int .i64 hx, .int .i64 hy] 86)).alloc (.cells #[.bool s.1.1, .slice sa sn sc, .slice sd sm se, .bool t.1.1, .slice ta tn tc, .slice td tm te] 89)) w')) (by kernel_rfl) ?_ (fun hHeld => ?_)
    · first | exact (by with_reducible repeat (first | exact Turns.refl _ _ | apply Turns.drew | apply Turns.drewN | apply Turns.alloc | refine Turns.setCell ?_ (by first | (left; simp; done) | (right; simp <;> omega)) _ | refine Turns.via (by assumption) ?_)) | exact (Turns.more (by with_reducible repeat (first | exact Turns.refl _ _ | apply Turns.drew | apply Turns.drewN | apply Turns.alloc | refine Turns.setCellR ?_ (by simp <;> omega) _ | refine Turns.via (by assumption) ?_)))
    refine tk (v := ?_) 0 ⟨some 6, _, _, _, _, _⟩ rfl ?_ ?_
    rotate_left 2
    · (intro w hSw; (try dsimp only at hSw); go_simp; (try with_reducible rfl))
    (try simp only [Act.put, List.setIfInBounds_toArray, List.set_cons_zero, List.set_cons_succ])
    refine tk (v := ?_) 1 ⟨some 7, _, _, _, _, _⟩ rfl ?_ ?_
    rotate_left 2
    · (intro w hSw; (try dsimp only at hSw); go_simp; (try with_reducible rfl))
    (try simp only [Act.put, List.setIfInBounds_toArray, List.set_cons_zero, List.set_cons_succ])
    refine tk (v := ?_) 2 ⟨some 8, _, _, _, _, _⟩ rfl ?_ ?_
    rotate_left 2
    · (intro w hSw; (try dsimp only at hSw); go_simp; (try with_reducible rfl))
    (try simp only [Act.put, List.setIfInBounds_toArray, List.set_cons_zero, List.set_cons_succ])
    refine tk (v := ?_) 3 ⟨some 9, _, _, _, _, _⟩ rfl ?_ ?_
    rotate_left 2
    · (intro w hSw; (try dsimp only at hSw); go_simp; (try with_reducible rfl))
    (try simp only [Act.put, List.setIfInBounds_toArray, List.set_cons_zero, List.set_cons_succ])
    refine tk (v := ?_) 4 ⟨some 10, _, _, _, _, _⟩ rfl ?_ ?_
    rotate_left 2
    · (intro w hSw; (try dsimp only at hSw); go_simp; (try with_reducible rfl))
    (try simp only [Act.put, List.setIfInBounds_toArray, List.set_cons_zero, List.set_cons_succ])
    refine wpAnyH_ready (rs := [5]) (by kernel_rfl) (by simp) ?_
    refine AllReadyH.cons (o := ⟨some 11, _, _, _, _, _⟩) rfl (fun K hK => ?_) AllReadyH.nil
    go_simp
    (go_at_call 102; (with_reducible refine (spec_RatFromInt lx _ HIlx.out).mono ?_); rintro e w1 ⟨u1, v1, rfl, hb1, g1⟩; rw [SIlx.out]; obtain ⟨r1a, r1n, r1c, r1d, r1m, r1e, rfl, rfl⟩ := g1.sh; have G1 := Lib.hid (int_raw SIlx.out g1); clear g1; have HX1 : More ((w.alloc (.cells #[.int .i64 lx, .int .i64 ly, .int .i64 hx, .int .i64 hy] 86)).alloc (.cells #[.bool s.1.1, .slice sa sn sc, .slice sd sm se, .bool t.1.1, .slice ta tn tc, .slice td tm te] 89)) w1 := (Turns.more (by with_reducible repeat (first | exact Turns.refl _ _ | apply Turns.drew | apply Turns.drewN | apply Turns.alloc | refine Turns.via (by assumption) ?_))); have HB1 := HB _ HX1; have hz1 := More.size HX1; (try simp at hz1); have hb1 := hb1)
    refine hK.out _ _ ?_ (fun hHeld => ?_)
    · first | exact (by with_reducible repeat (first | exact Turns.refl _ _ | apply Turns.drew | apply Turns.drewN | apply Turns.alloc | refine Turns.setCell ?_ (by first | (left; simp; done) | (right; simp <;> omega)) _ | refine Turns.via (by assumption) ?_)) | exact (Turns.more (by with_reducible repeat (first | exact Turns.refl _ _ | apply Turns.drew | apply Turns.drewN | apply Turns.alloc | refine Turns.setCellR ?_ (by simp <;> omega) _ | refine Turns.via (by assumption) ?_)))
    clear hK K
    (try simp only [Act.put, List.setIfInBounds_toArray, List.set_cons_zero, List.set_cons_succ])
    refine wpAnyH_ready (rs := [6]) (by kernel_rfl) (by simp) ?_
    refine AllReadyH.cons (o := ⟨some 12, _, _, _, _, _⟩) rfl (fun K hK => ?_) AllReadyH.nil
    go_simp
    (go_at_call 96; (with_reducible refine (spec_RatCmpX s s.1.1 (.slice sa sn sc) (.slice sd sm se) (encR (frInt lx)) s1 (.slice r1a r1n r1c) (.slice r1d r1m r1e) _ (Ty.at_more Hs.out (Turns.more (by with_reducible repeat (first | exact Turns.refl _ _ | apply Turns.drew | apply Turns.drewN | apply Turns.alloc | refine Turns.via (by assumption) ?_)))) Ws.out (Ty.at_more G1.out (Turns.more (by with_reducible repeat (first | exact Turns.refl _ _ | apply Turns.drew | apply Turns.drewN | apply Turns.alloc | refine Turns.via (by assumption) ?_)))) WIlx.out).mono ?_); rintro e w2 ⟨rfl, hb2⟩; rw [C.out]; have HX2 : More ((w.alloc (.cells #[.int .i64 lx, .int .i64 ly, .int .i64 hx, .int .i64 hy] 86)).alloc (.cells #[.bool s.1.1, .slice sa sn sc, .slice sd sm se, .bool t.1.1, .slice ta tn tc, .slice td tm te] 89)) w2 := (Turns.more (by with_reducible repeat (first | exact Turns.refl _ _ | apply Turns.drew | apply Turns.drewN | apply Turns.alloc | refine Turns.via (by assumption) ?_))); have HB2 := HB _ HX2; have hz2 := More.size HX2; (try simp at hz2); have hb2 := hb2)
    refine hK.out _ _ ?_ (fun hHeld => ?_)
    · first | exact (by with_reducible repeat (first | exact Turns.refl _ _ | apply Turns.drew | apply Turns.drewN | apply Turns.alloc | refine Turns.setCell ?_ (by first | (left; simp; done) | (right; simp <;> omega)) _ | refine Turns.via (by assumption) ?_)) | exact (Turns.more (by with_reducible repeat (first | exact Turns.refl _ _ | apply Turns.drew | apply Turns.drewN | apply Turns.alloc | refine Turns.setCellR ?_ (by simp <;> omega) _ | refine Turns.via (by assumption) ?_)))
    clear hK K
    (try simp only [Act.put, List.setIfInBounds_toArray, List.set_cons_zero, List.set_cons_succ])
    refine tk (v := ?_) 7 ⟨some 13, _, _, _, _, _⟩ rfl ?_ ?_
    rotate_left 2
    · (intro w hSw; (try dsimp only at hSw); go_simp; (try with_reducible rfl))
    (try simp only [Act.put, List.setIfInBounds_toArray, List.set_cons_zero, List.set_cons_succ])
    refine tk (v := ?_) 8 ⟨some 14, _, _, _, _, _⟩ rfl ?_ ?_
    rotate_left 2
    · (intro w hSw; (try dsimp only at hSw); go_simp; (try with_reducible rfl))
    (try simp only [Act.put, List.setIfInBounds_toArray, List.set_cons_zero, List.set_cons_succ])
    refine tk (v := ?_) 9 ⟨some 15, _, _, _, _, _⟩ rfl ?_ ?_
    rotate_left 2
    · (intro w hSw; (try dsimp only at hSw); go_simp; (try with_reducible rfl))
    (try simp only [Act.put, List.setIfInBounds_toArray, List.set_cons_zero, List.set_cons_succ])
    refine tk (v := ?_) 10 ⟨some 16, _, _, _, _, _⟩ rfl ?_ ?_
    rotate_left 2
    · (intro w hSw; (try dsimp only at hSw); go_simp; (try with_reducible rfl))
    (try simp only [Act.put, List.setIfInBounds_toArray, List.set_cons_zero, List.set_cons_succ])
    refine tk (v := ?_) 11 ⟨some 17, _, _, _, _, _⟩ rfl ?_ ?_
    rotate_left 2
    · (intro w hSw; (try dsimp only at hSw); go_simp; (try with_reducible rfl))
    (try simp only [Act.put, List.setIfInBounds_toArray, List.set_cons_zero, List.set_cons_succ])
    refine tk (v := ?_) 12 ⟨some 18, _, _, _, _, _⟩ rfl ?_ ?_
    rotate_left 2
    · (intro w hSw; (try dsimp only at hSw); go_simp; (try with_reducible rfl))
    (try simp only [Act.put, List.setIfInBounds_toArray, List.set_cons_zero, List.set_cons_succ])
    refine tk (v := ?_) 13 ⟨some 19, _, _, _, _, _⟩ rfl ?_ ?_
    rotate_left 2
    · (intro w hSw; (try dsimp only at hSw); go_simp; (try with_reducible rfl))
    (try simp only [Act.put, List.setIfInBounds_toArray, List.set_cons_zero, List.set_cons_succ])
    refine wpAnyH_ready (rs := [14]) (by kernel_rfl) (by simp) ?_
    refine AllReadyH.cons (o := ⟨some 20, _, _, _, _, _⟩) rfl (fun K hK => ?_) AllReadyH.nil
    go_simp
    (go_at_call 102; (with_reducible refine (spec_RatFromInt hx _ HIhx.out).mono ?_); rintro e w3 ⟨u3, v3, rfl, hb3, g3⟩; rw [SIhx.out]; obtain ⟨r3a, r3n, r3c, r3d, r3m, r3e, rfl, rfl⟩ := g3.sh; have G3 := Lib.hid (int_raw SIhx.out g3); clear g3; have HX3 : More ((w.alloc (.cells #[.int .i64 lx, .int .i64 ly, .int .i64 hx, .int .i64 hy] 86)).alloc (.cells #[.bool s.1.1, .slice sa sn sc, .slice sd sm se, .bool t.1.1, .slice ta tn tc, .slice td tm te] 89)) w3 := (Turns.more (by with_reducible repeat (first | exact Turns.refl _ _ | apply Turns.drew | apply Turns.drewN | apply Turns.alloc | refine Turns.via (by assumption) ?_))); have HB3 := HB _ HX3; have hz3 := More.size HX3; (try simp at hz3); have hb3 := hb3)
    refine hK.out _ _ ?_ (fun hHeld => ?_)
    · first | exact (by with_reducible repeat (first | exact Turns.refl _ _ | apply Turns.drew | apply Turns.drewN | apply Turns.alloc | refine Turns.setCell ?_ (by first | (left; simp; done) | (right; simp <;> omega)) _ | refine Turns.via (by assumption) ?_)) | exact (Turns.more (by with_reducible repeat (first | exact Turns.refl _ _ | apply Turns.drew | apply Turns.drewN | apply Turns.alloc | refine Turns.setCellR ?_ (by simp <;> omega) _ | refine Turns.via (by assumption) ?_)))
    clear hK K
    (try simp only [Act.put, List.setIfInBounds_toArray, List.set_cons_zero, List.set_cons_succ])
    refine wpAnyH_ready (rs := [15]) (by kernel_rfl) (by simp) ?_
    refine AllReadyH.cons (o := ⟨some 21, _, _, _, _, _⟩) rfl (fun K hK => ?_) AllReadyH.nil
    go_simp
    (go_at_call 96; (with_reducible refine (spec_RatCmpX s s.1.1 (.slice sa sn sc) (.slice sd sm se) (encR (frInt hx)) s2 (.slice r3a r3n r3c) (.slice r3d r3m r3e) _ (Ty.at_more Hs.out (Turns.more (by with_reducible repeat (first | exact Turns.refl _ _ | apply Turns.drew | apply Turns.drewN | apply Turns.alloc | refine Turns.via (by assumption) ?_)))) Ws.out (Ty.at_more G3.out (Turns.more (by with_reducible repeat (first | exact Turns.refl _ _ | apply Turns.drew | apply Turns.drewN | apply Turns.alloc | refine Turns.via (by assumption) ?_)))) WIhx.out).mono ?_); rintro e w4 ⟨rfl, hb4⟩; rw [D.out]; have HX4 : More ((w.alloc (.cells #[.int .i64 lx, .int .i64 ly, .int .i64 hx, .int .i64 hy] 86)).alloc (.cells #[.bool s.1.1, .slice sa sn sc, .slice sd sm se, .bool t.1.1, .slice ta tn tc, .slice td tm te] 89)) w4 := (Turns.more (by with_reducible repeat (first | exact Turns.refl _ _ | apply Turns.drew | apply Turns.drewN | apply Turns.alloc | refine Turns.via (by assumption) ?_))); have HB4 := HB _ HX4; have hz4 := More.size HX4; (try simp at hz4); have hb4 := hb4)
    refine hK.out _ _ ?_ (fun hHeld => ?_)
    · first | exact (by with_reducible repeat (first | exact Turns.refl _ _ | apply Turns.drew | apply Turns.drewN | apply Turns.alloc | refine Turns.setCell ?_ (by first | (left; simp; done) | (right; simp <;> omega)) _ | refine Turns.via (by assumption) ?_)) | exact (Turns.more (by with_reducible repeat (first | exact Turns.refl _ _ | apply Turns.drew | apply Turns.drewN | apply Turns.alloc | refine Turns.setCellR ?_ (by simp <;> omega) _ | refine Turns.via (by assumption) ?_)))
    clear hK K
    (try simp only [Act.put, List.setIfInBounds_toArray, List.set_cons_zero, List.set_cons_succ])
    refine tk (v := ?_) 16 ⟨some 22, _, _, _, _, _⟩ rfl ?_ ?_
    rotate_left 2
    · (intro w hSw; (try dsimp only at hSw); go_simp; (try with_reducible rfl))
    (try simp only [Act.put, List.setIfInBounds_toArray, List.set_cons_zero, List.set_cons_succ])
    refine tk (v := ?_) 17 ⟨some 23, _, _, _, _, _⟩ rfl ?_ ?_
    rotate_left 2
    · (intro w hSw; (try dsimp only at hSw); go_simp; (try with_reducible rfl))
    (try simp only [Act.put, List.setIfInBounds_toArray, List.set_cons_zero, List.set_cons_succ])
    refine tk (v := ?_) 18 ⟨some 5, _, _, _, _, _⟩ rfl ?_ ?_
    rotate_left 2
    · (intro w hSw; (try dsimp only at hSw); go_simp; (try with_reducible rfl))
    (try simp only [Act.put, List.setIfInBounds_toArray, List.set_cons_zero, List.set_cons_succ])
    refine wpAnyH_done (by kernel_rfl) ?_ _
    go_wp2_with fail
    refine wp_region_held_drew (S := (fun w' => Turns [] ((w.alloc (.cells #[.int .i64 lx, .int .i64 ly, .int .i64 hx, .int .i64 hy] 86)).alloc (.cells #[.bool s.1.1, .slice sa sn sc, .slice sd sm se, .bool t.1.1, .slice ta tn tc, .slice td tm te] 89)) w')) (by kernel_rfl) ?_ (fun hHeld => ?_)
    · first | exact (by with_reducible repeat (first | exact Turns.refl _ _ | apply Turns.drew | apply Turns.drewN | apply Turns.alloc | refine Turns.setCell ?_ (by first | (left; simp; done) | (right; simp <;> omega)) _ | refine Turns.via (by assumption) ?_)) | exact (Turns.more (by with_reducible repeat (first | exact Turns.refl _ _ | apply Turns.drew | apply Turns.drewN | apply Turns.alloc | refine Turns.setCellR ?_ (by simp <;> omega) _ | refine Turns.via (by assumption) ?_)))
    refine tk (v := ?_) 0 ⟨some 24, _, _, _, _, _⟩ rfl ?_ ?_
    rotate_left 2
    · (intro w hSw; (try dsimp only at hSw); go_simp; (try with_reducible rfl))
    (try simp only [Act.put, List.setIfInBounds_toArray, List.set_cons_zero, List.set_cons_succ])
    refine tk (v := ?_) 1 ⟨some 25, _, _, _, _, _⟩ rfl ?_ ?_
    rotate_left 2
    · (intro w hSw; (try dsimp only at hSw); go_simp; (try with_reducible rfl))
    (try simp only [Act.put, List.setIfInBounds_toArray, List.set_cons_zero, List.set_cons_succ])
    refine tk (v := ?_) 2 ⟨some 26, _, _, _, _, _⟩ rfl ?_ ?_
    rotate_left 2
    · (intro w hSw; (try dsimp only at hSw); go_simp; (try with_reducible rfl))
    (try simp only [Act.put, List.setIfInBounds_toArray, List.set_cons_zero, List.set_cons_succ])
    refine tk (v := ?_) 3 ⟨some 27, _, _, _, _, _⟩ rfl ?_ ?_
    rotate_left 2
    · (intro w hSw; (try dsimp only at hSw); go_simp; (try with_reducible rfl))
    (try simp only [Act.put, List.setIfInBounds_toArray, List.set_cons_zero, List.set_cons_succ])
    refine tk (v := ?_) 4 ⟨some 28, _, _, _, _, _⟩ rfl ?_ ?_
    rotate_left 2
    · (intro w hSw; (try dsimp only at hSw); go_simp; (try with_reducible rfl))
    (try simp only [Act.put, List.setIfInBounds_toArray, List.set_cons_zero, List.set_cons_succ])
    refine tk (v := ?_) 5 ⟨some 29, _, _, _, _, _⟩ rfl ?_ ?_
    rotate_left 2
    · (intro w hSw; (try dsimp only at hSw); go_simp; (try with_reducible rfl))
    (try simp only [Act.put, List.setIfInBounds_toArray, List.set_cons_zero, List.set_cons_succ])
    refine tk (v := ?_) 6 ⟨some 30, _, _, _, _, _⟩ rfl ?_ ?_
    rotate_left 2
    · (intro w hSw; (try dsimp only at hSw); go_simp; (try with_reducible rfl))
    (try simp only [Act.put, List.setIfInBounds_toArray, List.set_cons_zero, List.set_cons_succ])
    refine wpAnyH_ready (rs := [7]) (by kernel_rfl) (by simp) ?_
    refine AllReadyH.cons (o := ⟨some 31, _, _, _, _, _⟩) rfl (fun K hK => ?_) AllReadyH.nil
    go_simp
    (go_at_call 102; (with_reducible refine (spec_RatFromInt ly _ HIly.out).mono ?_); rintro e w5 ⟨u5, v5, rfl, hb5, g5⟩; rw [SIly.out]; obtain ⟨r5a, r5n, r5c, r5d, r5m, r5e, rfl, rfl⟩ := g5.sh; have G5 := Lib.hid (int_raw SIly.out g5); clear g5; have HX5 : More ((w.alloc (.cells #[.int .i64 lx, .int .i64 ly, .int .i64 hx, .int .i64 hy] 86)).alloc (.cells #[.bool s.1.1, .slice sa sn sc, .slice sd sm se, .bool t.1.1, .slice ta tn tc, .slice td tm te] 89)) w5 := (Turns.more (by with_reducible repeat (first | exact Turns.refl _ _ | apply Turns.drew | apply Turns.drewN | apply Turns.alloc | refine Turns.via (by assumption) ?_))); have HB5 := HB _ HX5; have hz5 := More.size HX5; (try simp at hz5); have hb5 := hb5)
    refine hK.out _ _ ?_ (fun hHeld => ?_)
    · first | exact (by with_reducible repeat (first | exact Turns.refl _ _ | apply Turns.drew | apply Turns.drewN | apply Turns.alloc | refine Turns.setCell ?_ (by first | (left; simp; done) | (right; simp <;> omega)) _ | refine Turns.via (by assumption) ?_)) | exact (Turns.more (by with_reducible repeat (first | exact Turns.refl _ _ | apply Turns.drew | apply Turns.drewN | apply Turns.alloc | refine Turns.setCellR ?_ (by simp <;> omega) _ | refine Turns.via (by assumption) ?_)))
    clear hK K
    (try simp only [Act.put, List.setIfInBounds_toArray, List.set_cons_zero, List.set_cons_succ])
    refine wpAnyH_ready (rs := [8]) (by kernel_rfl) (by simp) ?_
    refine AllReadyH.cons (o := ⟨some 32, _, _, _, _, _⟩) rfl (fun K hK => ?_) AllReadyH.nil
    go_simp
    (go_at_call 96; (with_reducible refine (spec_RatCmpX t t.1.1 (.slice ta tn tc) (.slice td tm te) (encR (frInt ly)) s3 (.slice r5a r5n r5c) (.slice r5d r5m r5e) _ (Ty.at_more Ht.out (Turns.more (by with_reducible repeat (first | exact Turns.refl _ _ | apply Turns.drew | apply Turns.drewN | apply Turns.alloc | refine Turns.via (by assumption) ?_)))) Wt.out (Ty.at_more G5.out (Turns.more (by with_reducible repeat (first | exact Turns.refl _ _ | apply Turns.drew | apply Turns.drewN | apply Turns.alloc | refine Turns.via (by assumption) ?_)))) WIly.out).mono ?_); rintro e w6 ⟨rfl, hb6⟩; rw [E.out]; have HX6 : More ((w.alloc (.cells #[.int .i64 lx, .int .i64 ly, .int .i64 hx, .int .i64 hy] 86)).alloc (.cells #[.bool s.1.1, .slice sa sn sc, .slice sd sm se, .bool t.1.1, .slice ta tn tc, .slice td tm te] 89)) w6 := (Turns.more (by with_reducible repeat (first | exact Turns.refl _ _ | apply Turns.drew | apply Turns.drewN | apply Turns.alloc | refine Turns.via (by assumption) ?_))); have HB6 := HB _ HX6; have hz6 := More.size HX6; (try simp at hz6); have hb6 := hb6)
    refine hK.out _ _ ?_ (fun hHeld => ?_)
    · first | exact (by with_reducible repeat (first | exact Turns.refl _ _ | apply Turns.drew | apply Turns.drewN | apply Turns.alloc | refine Turns.setCell ?_ (by first | (left; simp; done) | (right; simp <;> omega)) _ | refine Turns.via (by assumption) ?_)) | exact (Turns.more (by with_reducible repeat (first | exact Turns.refl _ _ | apply Turns.drew | apply Turns.drewN | apply Turns.alloc | refine Turns.setCellR ?_ (by simp <;> omega) _ | refine Turns.via (by assumption) ?_)))
    clear hK K
    (try simp only [Act.put, List.setIfInBounds_toArray, List.set_cons_zero, List.set_cons_succ])
    refine tk (v := ?_) 9 ⟨some 33, _, _, _, _, _⟩ rfl ?_ ?_
    rotate_left 2
    · (intro w hSw; (try dsimp only at hSw); go_simp; (try with_reducible rfl))
    (try simp only [Act.put, List.setIfInBounds_toArray, List.set_cons_zero, List.set_cons_succ])
    refine tk (v := ?_) 10 ⟨some 34, _, _, _, _, _⟩ rfl ?_ ?_
    rotate_left 2
    · (intro w hSw; (try dsimp only at hSw); go_simp; (try with_reducible rfl))
    (try simp only [Act.put, List.setIfInBounds_toArray, List.set_cons_zero, List.set_cons_succ])
    refine tk (v := ?_) 11 ⟨some 35, _, _, _, _, _⟩ rfl ?_ ?_
    rotate_left 2
    · (intro w hSw; (try dsimp only at hSw); go_simp; (try with_reducible rfl))
    (try simp only [Act.put, List.setIfInBounds_toArray, List.set_cons_zero, List.set_cons_succ])
    refine tk (v := ?_) 12 ⟨some 36, _, _, _, _, _⟩ rfl ?_ ?_
    rotate_left 2
    · (intro w hSw; (try dsimp only at hSw); go_simp; (try with_reducible rfl))
    (try simp only [Act.put, List.setIfInBounds_toArray, List.set_cons_zero, List.set_cons_succ])
    refine tk (v := ?_) 13 ⟨some 37, _, _, _, _, _⟩ rfl ?_ ?_
    rotate_left 2
    · (intro w hSw; (try dsimp only at hSw); go_simp; (try with_reducible rfl))
    (try simp only [Act.put, List.setIfInBounds_toArray, List.set_cons_zero, List.set_cons_succ])
    refine tk (v := ?_) 14 ⟨some 38, _, _, _, _, _⟩ rfl ?_ ?_
    rotate_left 2
    · (intro w hSw; (try dsimp only at hSw); go_simp; (try with_reducible rfl))
    (try simp only [Act.put, List.setIfInBounds_toArray, List.set_cons_zero, List.set_cons_succ])
    refine tk (v := ?_) 15 ⟨some 39, _, _, _, _, _⟩ rfl ?_ ?_
    rotate_left 2
    · (intro w hSw; (try dsimp only at hSw); go_simp; (try with_reducible rfl))
    (try simp only [Act.put, List.setIfInBounds_toArray, List.set_cons_zero, List.set_cons_succ])
    refine tk (v := ?_) 16 ⟨some 40, _, _, _, _, _⟩ rfl ?_ ?_
    rotate_left 2
    · (intro w hSw; (try dsimp only at hSw); go_simp; (try with_reducible rfl))
    (try simp only [Act.put, List.setIfInBounds_toArray, List.set_cons_zero, List.set_cons_succ])
    refine wpAnyH_ready (rs := [17]) (by kernel_rfl) (by simp) ?_
    refine AllReadyH.cons (o := ⟨some 41, _, _, _, _, _⟩) rfl (fun K hK => ?_) AllReadyH.nil
    go_simp
    (go_at_call 102; (with_reducible refine (spec_RatFromInt hy _ HIhy.out).mono ?_); rintro e w7 ⟨u7, v7, rfl, hb7, g7⟩; rw [SIhy.out]; obtain ⟨r7a, r7n, r7c, r7d, r7m, r7e, rfl, rfl⟩ := g7.sh; have G7 := Lib.hid (int_raw SIhy.out g7); clear g7; have HX7 : More ((w.alloc (.cells #[.int .i64 lx, .int .i64 ly, .int .i64 hx, .int .i64 hy] 86)).alloc (.cells #[.bool s.1.1, .slice sa sn sc, .slice sd sm se, .bool t.1.1, .slice ta tn tc, .slice td tm te] 89)) w7 := (Turns.more (by with_reducible repeat (first | exact Turns.refl _ _ | apply Turns.drew | apply Turns.drewN | apply Turns.alloc | refine Turns.via (by assumption) ?_))); have HB7 := HB _ HX7; have hz7 := More.size HX7; (try simp at hz7); have hb7 := hb7)
    refine hK.out _ _ ?_ (fun hHeld => ?_)
    · first | exact (by with_reducible repeat (first | exact Turns.refl _ _ | apply Turns.drew | apply Turns.drewN | apply Turns.alloc | refine Turns.setCell ?_ (by first | (left; simp; done) | (right; simp <;> omega)) _ | refine Turns.via (by assumption) ?_)) | exact (Turns.more (by with_reducible repeat (first | exact Turns.refl _ _ | apply Turns.drew | apply Turns.drewN | apply Turns.alloc | refine Turns.setCellR ?_ (by simp <;> omega) _ | refine Turns.via (by assumption) ?_)))
    clear hK K
    (try simp only [Act.put, List.setIfInBounds_toArray, List.set_cons_zero, List.set_cons_succ])
    refine wpAnyH_ready (rs := [18]) (by kernel_rfl) (by simp) ?_
    refine AllReadyH.cons (o := ⟨some 42, _, _, _, _, _⟩) rfl (fun K hK => ?_) AllReadyH.nil
    go_simp
    (go_at_call 96; (with_reducible refine (spec_RatCmpX t t.1.1 (.slice ta tn tc) (.slice td tm te) (encR (frInt hy)) s4 (.slice r7a r7n r7c) (.slice r7d r7m r7e) _ (Ty.at_more Ht.out (Turns.more (by with_reducible repeat (first | exact Turns.refl _ _ | apply Turns.drew | apply Turns.drewN | apply Turns.alloc | refine Turns.via (by assumption) ?_)))) Wt.out (Ty.at_more G7.out (Turns.more (by with_reducible repeat (first | exact Turns.refl _ _ | apply Turns.drew | apply Turns.drewN | apply Turns.alloc | refine Turns.via (by assumption) ?_)))) WIhy.out).mono ?_); rintro e w8 ⟨rfl, hb8⟩; rw [F.out]; have HX8 : More ((w.alloc (.cells #[.int .i64 lx, .int .i64 ly, .int .i64 hx, .int .i64 hy] 86)).alloc (.cells #[.bool s.1.1, .slice sa sn sc, .slice sd sm se, .bool t.1.1, .slice ta tn tc, .slice td tm te] 89)) w8 := (Turns.more (by with_reducible repeat (first | exact Turns.refl _ _ | apply Turns.drew | apply Turns.drewN | apply Turns.alloc | refine Turns.via (by assumption) ?_))); have HB8 := HB _ HX8; have hz8 := More.size HX8; (try simp at hz8); have hb8 := hb8)
    refine hK.out _ _ ?_ (fun hHeld => ?_)
    · first | exact (by with_reducible repeat (first | exact Turns.refl _ _ | apply Turns.drew | apply Turns.drewN | apply Turns.alloc | refine Turns.setCell ?_ (by first | (left; simp; done) | (right; simp <;> omega)) _ | refine Turns.via (by assumption) ?_)) | exact (Turns.more (by with_reducible repeat (first | exact Turns.refl _ _ | apply Turns.drew | apply Turns.drewN | apply Turns.alloc | refine Turns.setCellR ?_ (by simp <;> omega) _ | refine Turns.via (by assumption) ?_)))
    clear hK K
    (try simp only [Act.put, List.setIfInBounds_toArray, List.set_cons_zero, List.set_cons_succ])
    refine tk (v := ?_) 19 ⟨some 43, _, _, _, _, _⟩ rfl ?_ ?_
    rotate_left 2
    · (intro w hSw; (try dsimp only at hSw); go_simp; (try with_reducible rfl))
    (try simp only [Act.put, List.setIfInBounds_toArray, List.set_cons_zero, List.set_cons_succ])
    refine tk (v := ?_) 20 ⟨some 44, _, _, _, _, _⟩ rfl ?_ ?_
    rotate_left 2
    · (intro w hSw; (try dsimp only at hSw); go_simp; (try with_reducible rfl))
    (try simp only [Act.put, List.setIfInBounds_toArray, List.set_cons_zero, List.set_cons_succ])
    refine tk (v := ?_) 21 ⟨some 4, _, _, _, _, _⟩ rfl ?_ ?_
    rotate_left 2
    · (intro w hSw; (try dsimp only at hSw); go_simp; (try with_reducible rfl))
    (try simp only [Act.put, List.setIfInBounds_toArray, List.set_cons_zero, List.set_cons_succ])
    refine wpAnyH_done (by kernel_rfl) ?_ _
    go_wp2_with fail
    go_ret
    exact ⟨ret_bool (by first | (simp [inBoxB, C.out, D.out, E.out, F.out]; done) | (simp [inBoxB, C.out, D.out, E.out, F.out] <;> omega)), (Turns.more (by with_reducible repeat (first | exact Turns.refl _ _ | apply Turns.drew | apply Turns.drewN | apply Turns.alloc | refine Turns.via (by assumption) ?_)))⟩
  have hFd : decide (f0 < 0) = true := decide_eq_true (by omega)
  have HX : More ((w.alloc (.cells #[.int .i64 lx, .int .i64 ly, .int .i64 hx, .int .i64 hy] 86)).alloc (.cells #[.bool s.1.1, .slice sa sn sc, .slice sd sm se, .bool t.1.1, .slice ta tn tc, .slice td tm te] 89)) ((w.alloc (.cells #[.int .i64 lx, .int .i64 ly, .int .i64 hx, .int .i64 hy] 86)).alloc (.cells #[.bool s.1.1, .slice sa sn sc, .slice sd sm se, .bool t.1.1, .slice ta tn tc, .slice td tm te] 89)) := More.refl _
  have HB : ∀ w', More ((w.alloc (.cells #[.int .i64 lx, .int .i64 ly, .int .i64 hx, .int .i64 hy] 86)).alloc (.cells #[.bool s.1.1, .slice sa sn sc, .slice sd sm se, .bool t.1.1, .slice ta tn tc, .slice td tm te] 89)) w' → w'.cell? ⟨w.heap.size, 0, none⟩ = some (.int .i64 lx) ∧ w'.cell? ⟨w.heap.size, 1, none⟩ = some (.int .i64 ly) ∧ w'.cell? ⟨w.heap.size, 2, none⟩ = some (.int .i64 hx) ∧ w'.cell? ⟨w.heap.size, 3, none⟩ = some (.int .i64 hy) ∧ (∀ j, w'.frozen? ⟨w.heap.size, j, none⟩ = false) ∧ w'.cell? ⟨w.heap.size + 1, 0, none⟩ = some (.bool s.1.1) ∧ w'.cell? ⟨w.heap.size + 1, 1, none⟩ = some (.slice sa sn sc) ∧ w'.cell? ⟨w.heap.size + 1, 2, none⟩ = some (.slice sd sm se) ∧ w'.cell? ⟨w.heap.size + 1, 3, none⟩ = some (.bool t.1.1) ∧ w'.cell? ⟨w.heap.size + 1, 4, none⟩ = some (.slice ta tn tc) ∧ w'.cell? ⟨w.heap.size + 1, 5, none⟩ = some (.slice td tm te) ∧ (∀ j, w'.frozen? ⟨w.heap.size + 1, j, none⟩ = false) := fun w' h => ⟨box_new (by simp) (More.un h) 0, box_new (by simp) (More.un h) 1, box_new (by simp) (More.un h) 2, box_new (by simp) (More.un h) 3, fun j => box_free (by simp) (More.un h) j, box_new (by simp) h 0, box_new (by simp) h 1, box_new (by simp) h 2, box_new (by simp) h 3, box_new (by simp) h 4, box_new (by simp) h 5, fun j => box_free (by simp) h j⟩
  have HC := fun (w' : World) (h : Turns [] ((w.alloc (.cells #[.int .i64 lx, .int .i64 ly, .int .i64 hx, .int .i64 hy] 86)).alloc (.cells #[.bool s.1.1, .slice sa sn sc, .slice sd sm se, .bool t.1.1, .slice ta tn tc, .slice td tm te] 89)) w') => HB w' (Turns.more h)
  go_enter Try.func50, Try.ntmps50
  go_wp2_with fail
  refine wp_region_held_drew (S := (fun w' => Turns [] ((w.alloc (.cells #[.int .i64 lx, .int .i64 ly, .int .i64 hx, .int .i64 hy] 86)).alloc (.cells #[.bool s.1.1, .slice sa sn sc, .slice sd sm se, .bool t.1.1, .slice ta tn tc, .slice td tm te] 89)) w')) (by kernel_rfl) ?_ (fun hHeld => ?_)
  · first | exact (by with_reducible repeat (first | exact Turns.refl _ _ | apply Turns.drew | apply Turns.drewN | apply Turns.alloc | refine Turns.setCell ?_ (by first | (left; simp; done) | (right; simp <;> omega)) _ | refine Turns.via (by assumption) ?_)) | exact (Turns.more (by with_reducible repeat (first | exact Turns.refl _ _ | apply Turns.drew | apply Turns.drewN | apply Turns.alloc | refine Turns.setCellR ?_ (by simp <;> omega) _ | refine Turns.via (by assumption) ?_)))
  refine tk (v := ?_) 0 ⟨some 6, _, _, _, _, _⟩ rfl ?_ ?_
  rotate_left 2
  · (intro w hSw; (try dsimp only at hSw); go_simp; (try with_reducible rfl))
  (try simp only [Act.put, List.setIfInBounds_toArray, List.set_cons_zero, List.set_cons_succ])
  refine tk (v := ?_) 1 ⟨some 7, _, _, _, _, _⟩ rfl ?_ ?_
  rotate_left 2
  · (intro w hSw; (try dsimp only at hSw); go_simp; (try with_reducible rfl))
  (try simp only [Act.put, List.setIfInBounds_toArray, List.set_cons_zero, List.set_cons_succ])
  refine tk (v := ?_) 2 ⟨some 8, _, _, _, _, _⟩ rfl ?_ ?_
  rotate_left 2
  · (intro w hSw; (try dsimp only at hSw); go_simp; (try with_reducible rfl))
  (try simp only [Act.put, List.setIfInBounds_toArray, List.set_cons_zero, List.set_cons_succ])
  refine tk (v := ?_) 3 ⟨some 9, _, _, _, _, _⟩ rfl ?_ ?_
  rotate_left 2
  · (intro w hSw; (try dsimp only at hSw); go_simp; (try with_reducible rfl))
  (try simp only [Act.put, List.setIfInBounds_toArray, List.set_cons_zero, List.set_cons_succ])
  refine tk (v := ?_) 4 ⟨some 10, _, _, _, _, _⟩ rfl ?_ ?_
  rotate_left 2
  · (intro w hSw; (try dsimp only at hSw); go_simp; (try with_reducible rfl))
  (try simp only [Act.put, List.setIfInBounds_toArray, List.set_cons_zero, List.set_cons_succ])
  refine wpAnyH_ready (rs := [5]) (by kernel_rfl) (by simp) ?_
  refine AllReadyH.cons (o := ⟨some 11, _, _, _, _, _⟩) rfl (fun K hK => ?_) AllReadyH.nil
  go_simp
  (go_at_call 102; (with_reducible refine (spec_RatFromInt lx _ HIlx.out).mono ?_); rintro e w1 ⟨u1, v1, rfl, hb1, g1⟩; rw [SIlx.out]; obtain ⟨r1a, r1n, r1c, r1d, r1m, r1e, rfl, rfl⟩ := g1.sh; have G1 := Lib.hid (int_raw SIlx.out g1); clear g1; have HX1 : More ((w.alloc (.cells #[.int .i64 lx, .int .i64 ly, .int .i64 hx, .int .i64 hy] 86)).alloc (.cells #[.bool s.1.1, .slice sa sn sc, .slice sd sm se, .bool t.1.1, .slice ta tn tc, .slice td tm te] 89)) w1 := (Turns.more (by with_reducible repeat (first | exact Turns.refl _ _ | apply Turns.drew | apply Turns.drewN | apply Turns.alloc | refine Turns.via (by assumption) ?_))); have HB1 := HB _ HX1; have hz1 := More.size HX1; (try simp at hz1); have hb1 := hb1)
  refine hK.out _ _ ?_ (fun hHeld => ?_)
  · first | exact (by with_reducible repeat (first | exact Turns.refl _ _ | apply Turns.drew | apply Turns.drewN | apply Turns.alloc | refine Turns.setCell ?_ (by first | (left; simp; done) | (right; simp <;> omega)) _ | refine Turns.via (by assumption) ?_)) | exact (Turns.more (by with_reducible repeat (first | exact Turns.refl _ _ | apply Turns.drew | apply Turns.drewN | apply Turns.alloc | refine Turns.setCellR ?_ (by simp <;> omega) _ | refine Turns.via (by assumption) ?_)))
  clear hK K
  (try simp only [Act.put, List.setIfInBounds_toArray, List.set_cons_zero, List.set_cons_succ])
  refine wpAnyH_ready (rs := [6]) (by kernel_rfl) (by simp) ?_
  refine AllReadyH.cons (o := ⟨some 12, _, _, _, _, _⟩) rfl (fun K hK => ?_) AllReadyH.nil
  go_simp
  (go_at_call 96; (with_reducible refine (spec_RatCmpX s s.1.1 (.slice sa sn sc) (.slice sd sm se) (encR (frInt lx)) s1 (.slice r1a r1n r1c) (.slice r1d r1m r1e) _ (Ty.at_more Hs.out (Turns.more (by with_reducible repeat (first | exact Turns.refl _ _ | apply Turns.drew | apply Turns.drewN | apply Turns.alloc | refine Turns.via (by assumption) ?_)))) Ws.out (Ty.at_more G1.out (Turns.more (by with_reducible repeat (first | exact Turns.refl _ _ | apply Turns.drew | apply Turns.drewN | apply Turns.alloc | refine Turns.via (by assumption) ?_)))) WIlx.out).mono ?_); rintro e w2 ⟨rfl, hb2⟩; rw [C.out]; have HX2 : More ((w.alloc (.cells #[.int .i64 lx, .int .i64 ly, .int .i64 hx, .int .i64 hy] 86)).alloc (.cells #[.bool s.1.1, .slice sa sn sc, .slice sd sm se, .bool t.1.1, .slice ta tn tc, .slice td tm te] 89)) w2 := (Turns.more (by with_reducible repeat (first | exact Turns.refl _ _ | apply Turns.drew | apply Turns.drewN | apply Turns.alloc | refine Turns.via (by assumption) ?_))); have HB2 := HB _ HX2; have hz2 := More.size HX2; (try simp at hz2); have hb2 := hb2)
  refine hK.out _ _ ?_ (fun hHeld => ?_)
  · first | exact (by with_reducible repeat (first | exact Turns.refl _ _ | apply Turns.drew | apply Turns.drewN | apply Turns.alloc | refine Turns.setCell ?_ (by first | (left; simp; done) | (right; simp <;> omega)) _ | refine Turns.via (by assumption) ?_)) | exact (Turns.more (by with_reducible repeat (first | exact Turns.refl _ _ | apply Turns.drew | apply Turns.drewN | apply Turns.alloc | refine Turns.setCellR ?_ (by simp <;> omega) _ | refine Turns.via (by assumption) ?_)))
  clear hK K
  (try simp only [Act.put, List.setIfInBounds_toArray, List.set_cons_zero, List.set_cons_succ])
  refine tk (v := ?_) 7 ⟨some 13, _, _, _, _, _⟩ rfl ?_ ?_
  rotate_left 2
  · (intro w hSw; (try dsimp only at hSw); go_simp; (try with_reducible rfl))
  (try simp only [Act.put, List.setIfInBounds_toArray, List.set_cons_zero, List.set_cons_succ])
  refine tk (v := ?_) 8 ⟨some 14, _, _, _, _, _⟩ rfl ?_ ?_
  rotate_left 2
  · (intro w hSw; (try dsimp only at hSw); go_simp; (try with_reducible rfl))
  (try simp only [Act.put, List.setIfInBounds_toArray, List.set_cons_zero, List.set_cons_succ])
  refine tk (v := ?_) 9 ⟨some 15, _, _, _, _, _⟩ rfl ?_ ?_
  rotate_left 2
  · (intro w hSw; (try dsimp only at hSw); go_simp; (try with_reducible rfl))
  (try simp only [Act.put, List.setIfInBounds_toArray, List.set_cons_zero, List.set_cons_succ])
  refine tk (v := ?_) 10 ⟨some 16, _, _, _, _, _⟩ rfl ?_ ?_
  rotate_left 2
  · (intro w hSw; (try dsimp only at hSw); go_simp; (try with_reducible rfl))
  (try simp only [Act.put, List.setIfInBounds_toArray, List.set_cons_zero, List.set_cons_succ])
  refine tk (v := ?_) 11 ⟨some 17, _, _, _, _, _⟩ rfl ?_ ?_
  rotate_left 2
  · (intro w hSw; (try dsimp only at hSw); go_simp; (try with_reducible rfl))
  (try simp only [Act.put, List.setIfInBounds_toArray, List.set_cons_zero, List.set_cons_succ])
  refine tk (v := ?_) 12 ⟨some 18, _, _, _, _, _⟩ rfl ?_ ?_
  rotate_left 2
  · (intro w hSw; (try dsimp only at hSw); go_simp; (try with_reducible rfl))
  (try simp only [Act.put, List.setIfInBounds_toArray, List.set_cons_zero, List.set_cons_succ])
  refine tk (v := ?_) 13 ⟨some 19, _, _, _, _, _⟩ rfl ?_ ?_
  rotate_left 2
  · (intro w hSw; (try dsimp only at hSw); go_simp; (try with_reducible rfl))
  (try simp only [Act.put, List.setIfInBounds_toArray, List.set_cons_zero, List.set_cons_succ])
  refine wpAnyH_ready (rs := [14]) (by kernel_rfl) (by simp) ?_
  refine AllReadyH.cons (o := ⟨some 20, _, _, _, _, _⟩) rfl (fun K hK => ?_) AllReadyH.nil
  go_simp
  (go_at_call 102; (with_reducible refine (spec_RatFromInt hx _ HIhx.out).mono ?_); rintro e w3 ⟨u3, v3, rfl, hb3, g3⟩; rw [SIhx.out]; obtain ⟨r3a, r3n, r3c, r3d, r3m, r3e, rfl, rfl⟩ := g3.sh; have G3 := Lib.hid (int_raw SIhx.out g3); clear g3; have HX3 : More ((w.alloc (.cells #[.int .i64 lx, .int .i64 ly, .int .i64 hx, .int .i64 hy] 86)).alloc (.cells #[.bool s.1.1, .slice sa sn sc, .slice sd sm se, .bool t.1.1, .slice ta tn tc, .slice td tm te] 89)) w3 := (Turns.more (by with_reducible repeat (first | exact Turns.refl _ _ | apply Turns.drew | apply Turns.drewN | apply Turns.alloc | refine Turns.via (by assumption) ?_))); have HB3 := HB _ HX3; have hz3 := More.size HX3; (try simp at hz3); have hb3 := hb3)
  refine hK.out _ _ ?_ (fun hHeld => ?_)
  · first | exact (by with_reducible repeat (first | exact Turns.refl _ _ | apply Turns.drew | apply Turns.drewN | apply Turns.alloc | refine Turns.setCell ?_ (by first | (left; simp; done) | (right; simp <;> omega)) _ | refine Turns.via (by assumption) ?_)) | exact (Turns.more (by with_reducible repeat (first | exact Turns.refl _ _ | apply Turns.drew | apply Turns.drewN | apply Turns.alloc | refine Turns.setCellR ?_ (by simp <;> omega) _ | refine Turns.via (by assumption) ?_)))
  clear hK K
  (try simp only [Act.put, List.setIfInBounds_toArray, List.set_cons_zero, List.set_cons_succ])
  refine wpAnyH_ready (rs := [15]) (by kernel_rfl) (by simp) ?_
  refine AllReadyH.cons (o := ⟨some 21, _, _, _, _, _⟩) rfl (fun K hK => ?_) AllReadyH.nil
  go_simp
  (go_at_call 96; (with_reducible refine (spec_RatCmpX s s.1.1 (.slice sa sn sc) (.slice sd sm se) (encR (frInt hx)) s2 (.slice r3a r3n r3c) (.slice r3d r3m r3e) _ (Ty.at_more Hs.out (Turns.more (by with_reducible repeat (first | exact Turns.refl _ _ | apply Turns.drew | apply Turns.drewN | apply Turns.alloc | refine Turns.via (by assumption) ?_)))) Ws.out (Ty.at_more G3.out (Turns.more (by with_reducible repeat (first | exact Turns.refl _ _ | apply Turns.drew | apply Turns.drewN | apply Turns.alloc | refine Turns.via (by assumption) ?_)))) WIhx.out).mono ?_); rintro e w4 ⟨rfl, hb4⟩; rw [D.out]; have HX4 : More ((w.alloc (.cells #[.int .i64 lx, .int .i64 ly, .int .i64 hx, .int .i64 hy] 86)).alloc (.cells #[.bool s.1.1, .slice sa sn sc, .slice sd sm se, .bool t.1.1, .slice ta tn tc, .slice td tm te] 89)) w4 := (Turns.more (by with_reducible repeat (first | exact Turns.refl _ _ | apply Turns.drew | apply Turns.drewN | apply Turns.alloc | refine Turns.via (by assumption) ?_))); have HB4 := HB _ HX4; have hz4 := More.size HX4; (try simp at hz4); have hb4 := hb4)
  refine hK.out _ _ ?_ (fun hHeld => ?_)
  · first | exact (by with_reducible repeat (first | exact Turns.refl _ _ | apply Turns.drew | apply Turns.drewN | apply Turns.alloc | refine Turns.setCell ?_ (by first | (left; simp; done) | (right; simp <;> omega)) _ | refine Turns.via (by assumption) ?_)) | exact (Turns.more (by with_reducible repeat (first | exact Turns.refl _ _ | apply Turns.drew | apply Turns.drewN | apply Turns.alloc | refine Turns.setCellR ?_ (by simp <;> omega) _ | refine Turns.via (by assumption) ?_)))
  clear hK K
  (try simp only [Act.put, List.setIfInBounds_toArray, List.set_cons_zero, List.set_cons_succ])
  refine tk (v := ?_) 16 ⟨some 22, _, _, _, _, _⟩ rfl ?_ ?_
  rotate_left 2
  · (intro w hSw; (try dsimp only at hSw); go_simp; (try with_reducible rfl))
  (try simp only [Act.put, List.setIfInBounds_toArray, List.set_cons_zero, List.set_cons_succ])
  refine tk (v := ?_) 17 ⟨some 23, _, _, _, _, _⟩ rfl ?_ ?_
  rotate_left 2
  · (intro w hSw; (try dsimp only at hSw); go_simp; (try with_reducible rfl))
  (try simp only [Act.put, List.setIfInBounds_toArray, List.set_cons_zero, List.set_cons_succ])
  refine tk (v := ?_) 18 ⟨some 5, _, _, _, _, _⟩ rfl ?_ ?_
  rotate_left 2
  · (intro w hSw; (try dsimp only at hSw); go_simp; (try with_reducible rfl))
  (try simp only [Act.put, List.setIfInBounds_toArray, List.set_cons_zero, List.set_cons_succ])
  refine wpAnyH_done (by kernel_rfl) ?_ _
  go_wp2_with fail
  refine wp_region_held_drew (S := (fun w' => Turns [] ((w.alloc (.cells #[.int .i64 lx, .int .i64 ly, .int .i64 hx, .int .i64 hy] 86)).alloc (.cells #[.bool s.1.1, .slice sa sn sc, .slice sd sm se, .bool t.1.1, .slice ta tn tc, .slice td tm te] 89)) w')) (by kernel_rfl) ?_ (fun hHeld => ?_)
  · first | exact (by with_reducible repeat (first | exact Turns.refl _ _ | apply Turns.drew | apply Turns.drewN | apply Turns.alloc | refine Turns.setCell ?_ (by first | (left; simp; done) | (right; simp <;> omega)) _ | refine Turns.via (by assumption) ?_)) | exact (Turns.more (by with_reducible repeat (first | exact Turns.refl _ _ | apply Turns.drew | apply Turns.drewN | apply Turns.alloc | refine Turns.setCellR ?_ (by simp <;> omega) _ | refine Turns.via (by assumption) ?_)))
  refine tk (v := ?_) 0 ⟨some 24, _, _, _, _, _⟩ rfl ?_ ?_
  rotate_left 2
  · (intro w hSw; (try dsimp only at hSw); go_simp; (try with_reducible rfl))
  (try simp only [Act.put, List.setIfInBounds_toArray, List.set_cons_zero, List.set_cons_succ])
  refine tk (v := ?_) 1 ⟨some 25, _, _, _, _, _⟩ rfl ?_ ?_
  rotate_left 2
  · (intro w hSw; (try dsimp only at hSw); go_simp; (try with_reducible rfl))
  (try simp only [Act.put, List.setIfInBounds_toArray, List.set_cons_zero, List.set_cons_succ])
  refine tk (v := ?_) 2 ⟨some 26, _, _, _, _, _⟩ rfl ?_ ?_
  rotate_left 2
  · (intro w hSw; (try dsimp only at hSw); go_simp; (try with_reducible rfl))
  (try simp only [Act.put, List.setIfInBounds_toArray, List.set_cons_zero, List.set_cons_succ])
  refine tk (v := ?_) 3 ⟨some 27, _, _, _, _, _⟩ rfl ?_ ?_
  rotate_left 2
  · (intro w hSw; (try dsimp only at hSw); go_simp; (try with_reducible rfl))
  (try simp only [Act.put, List.setIfInBounds_toArray, List.set_cons_zero, List.set_cons_succ])
  refine tk (v := ?_) 4 ⟨some 28, _, _, _, _, _⟩ rfl ?_ ?_
  rotate_left 2
  · (intro w hSw; (try dsimp only at hSw); go_simp; (try with_reducible rfl))
  (try simp only [Act.put, List.setIfInBounds_toArray, List.set_cons_zero, List.set_cons_succ])
  refine tk (v := ?_) 5 ⟨some 29, _, _, _, _, _⟩ rfl ?_ ?_
  rotate_left 2
  · (intro w hSw; (try dsimp only at hSw); go_simp; (try with_reducible rfl))
  (try simp only [Act.put, List.setIfInBounds_toArray, List.set_cons_zero, List.set_cons_succ])
  refine tk (v := ?_) 6 ⟨some 30, _, _, _, _, _⟩ rfl ?_ ?_
  rotate_left 2
  · (intro w hSw; (try dsimp only at hSw); go_simp; (try with_reducible rfl))
  (try simp only [Act.put, List.setIfInBounds_toArray, List.set_cons_zero, List.set_cons_succ])
  refine wpAnyH_ready (rs := [7]) (by kernel_rfl) (by simp) ?_
  refine AllReadyH.cons (o := ⟨some 31, _, _, _, _, _⟩) rfl (fun K hK => ?_) AllReadyH.nil
  go_simp
  (go_at_call 102; (with_reducible refine (spec_RatFromInt ly _ HIly.out).mono ?_); rintro e w5 ⟨u5, v5, rfl, hb5, g5⟩; rw [SIly.out]; obtain ⟨r5a, r5n, r5c, r5d, r5m, r5e, rfl, rfl⟩ := g5.sh; have G5 := Lib.hid (int_raw SIly.out g5); clear g5; have HX5 : More ((w.alloc (.cells #[.int .i64 lx, .int .i64 ly, .int .i64 hx, .int .i64 hy] 86)).alloc (.cells #[.bool s.1.1, .slice sa sn sc, .slice sd sm se, .bool t.1.1, .slice ta tn tc, .slice td tm te] 89)) w5 := (Turns.more (by with_reducible repeat (first | exact Turns.refl _ _ | apply Turns.drew | apply Turns.drewN | apply Turns.alloc | refine Turns.via (by assumption) ?_))); have HB5 := HB _ HX5; have hz5 := More.size HX5; (try simp at hz5); have hb5 := hb5)
  refine hK.out _ _ ?_ (fun hHeld => ?_)
  · first | exact (by with_reducible repeat (first | exact Turns.refl _ _ | apply Turns.drew | apply Turns.drewN | apply Turns.alloc | refine Turns.setCell ?_ (by first | (left; simp; done) | (right; simp <;> omega)) _ | refine Turns.via (by assumption) ?_)) | exact (Turns.more (by with_reducible repeat (first | exact Turns.refl _ _ | apply Turns.drew | apply Turns.drewN | apply Turns.alloc | refine Turns.setCellR ?_ (by simp <;> omega) _ | refine Turns.via (by assumption) ?_)))
  clear hK K
  (try simp only [Act.put, List.setIfInBounds_toArray, List.set_cons_zero, List.set_cons_succ])
  refine wpAnyH_ready (rs := [8]) (by kernel_rfl) (by simp) ?_
  refine AllReadyH.cons (o := ⟨some 32, _, _, _, _, _⟩) rfl (fun K hK => ?_) AllReadyH.nil
  go_simp
  (go_at_call 96; (with_reducible refine (spec_RatCmpX t t.1.1 (.slice ta tn tc) (.slice td tm te) (encR (frInt ly)) s3 (.slice r5a r5n r5c) (.slice r5d r5m r5e) _ (Ty.at_more Ht.out (Turns.more (by with_reducible repeat (first | exact Turns.refl _ _ | apply Turns.drew | apply Turns.drewN | apply Turns.alloc | refine Turns.via (by assumption) ?_)))) Wt.out (Ty.at_more G5.out (Turns.more (by with_reducible repeat (first | exact Turns.refl _ _ | apply Turns.drew | apply Turns.drewN | apply Turns.alloc | refine Turns.via (by assumption) ?_)))) WIly.out).mono ?_); rintro e w6 ⟨rfl, hb6⟩; rw [E.out]; have HX6 : More ((w.alloc (.cells #[.int .i64 lx, .int .i64 ly, .int .i64 hx, .int .i64 hy] 86)).alloc (.cells #[.bool s.1.1, .slice sa sn sc, .slice sd sm se, .bool t.1.1, .slice ta tn tc, .slice td tm te] 89)) w6 := (Turns.more (by with_reducible repeat (first | exact Turns.refl _ _ | apply Turns.drew | apply Turns.drewN | apply Turns.alloc | refine Turns.via (by assumption) ?_))); have HB6 := HB _ HX6; have hz6 := More.size HX6; (try simp at hz6); have hb6 := hb6)
  refine hK.out _ _ ?_ (fun hHeld => ?_)
  · first | exact (by with_reducible repeat (first | exact Turns.refl _ _ | apply Turns.drew | apply Turns.drewN | apply Turns.alloc | refine Turns.setCell ?_ (by first | (left; simp; done) | (right; simp <;> omega)) _ | refine Turns.via (by assumption) ?_)) | exact (Turns.more (by with_reducible repeat (first | exact Turns.refl _ _ | apply Turns.drew | apply Turns.drewN | apply Turns.alloc | refine Turns.setCellR ?_ (by simp <;> omega) _ | refine Turns.via (by assumption) ?_)))
  clear hK K
  (try simp only [Act.put, List.setIfInBounds_toArray, List.set_cons_zero, List.set_cons_succ])
  refine tk (v := ?_) 9 ⟨some 33, _, _, _, _, _⟩ rfl ?_ ?_
  rotate_left 2
  · (intro w hSw; (try dsimp only at hSw); go_simp; (try with_reducible rfl))
  (try simp only [Act.put, List.setIfInBounds_toArray, List.set_cons_zero, List.set_cons_succ])
  refine tk (v := ?_) 10 ⟨some 34, _, _, _, _, _⟩ rfl ?_ ?_
  rotate_left 2
  · (intro w hSw; (try dsimp only at hSw); go_simp; (try with_reducible rfl))
  (try simp only [Act.put, List.setIfInBounds_toArray, List.set_cons_zero, List.set_cons_succ])
  refine tk (v := ?_) 11 ⟨some 35, _, _, _, _, _⟩ rfl ?_ ?_
  rotate_left 2
  · (intro w hSw; (try dsimp only at hSw); go_simp; (try with_reducible rfl))
  (try simp only [Act.put, List.setIfInBounds_toArray, List.set_cons_zero, List.set_cons_succ])
  refine tk (v := ?_) 12 ⟨some 36, _, _, _, _, _⟩ rfl ?_ ?_
  rotate_left 2
  · (intro w hSw; (try dsimp only at hSw); go_simp; (try with_reducible rfl))
  (try simp only [Act.put, List.setIfInBounds_toArray, List.set_cons_zero, List.set_cons_succ])
  refine tk (v := ?_) 13 ⟨some 37, _, _, _, _, _⟩ rfl ?_ ?_
  rotate_left 2
  · (intro w hSw; (try dsimp only at hSw); go_simp; (try with_reducible rfl))
  (try simp only [Act.put, List.setIfInBounds_toArray, List.set_cons_zero, List.set_cons_succ])
  refine tk (v := ?_) 14 ⟨some 38, _, _, _, _, _⟩ rfl ?_ ?_
  rotate_left 2
  · (intro w hSw; (try dsimp only at hSw); go_simp; (try with_reducible rfl))
  (try simp only [Act.put, List.setIfInBounds_toArray, List.set_cons_zero, List.set_cons_succ])
  refine tk (v := ?_) 15 ⟨some 39, _, _, _, _, _⟩ rfl ?_ ?_
  rotate_left 2
  · (intro w hSw; (try dsimp only at hSw); go_simp; (try with_reducible rfl))
  (try simp only [Act.put, List.setIfInBounds_toArray, List.set_cons_zero, List.set_cons_succ])
  refine tk (v := ?_) 16 ⟨some 40, _, _, _, _, _⟩ rfl ?_ ?_
  rotate_left 2
  · (intro w hSw; (try dsimp only at hSw); go_simp; (try with_reducible rfl))
  (try simp only [Act.put, List.setIfInBounds_toArray, List.set_cons_zero, List.set_cons_succ])
  refine wpAnyH_ready (rs := [17]) (by kernel_rfl) (by simp) ?_
  refine AllReadyH.cons (o := ⟨some 41, _, _, _, _, _⟩) rfl (fun K hK => ?_) AllReadyH.nil
  go_simp
  (go_at_call 102; (with_reducible refine (spec_RatFromInt hy _ HIhy.out).mono ?_); rintro e w7 ⟨u7, v7, rfl, hb7, g7⟩; rw [SIhy.out]; obtain ⟨r7a, r7n, r7c, r7d, r7m, r7e, rfl, rfl⟩ := g7.sh; have G7 := Lib.hid (int_raw SIhy.out g7); clear g7; have HX7 : More ((w.alloc (.cells #[.int .i64 lx, .int .i64 ly, .int .i64 hx, .int .i64 hy] 86)).alloc (.cells #[.bool s.1.1, .slice sa sn sc, .slice sd sm se, .bool t.1.1, .slice ta tn tc, .slice td tm te] 89)) w7 := (Turns.more (by with_reducible repeat (first | exact Turns.refl _ _ | apply Turns.drew | apply Turns.drewN | apply Turns.alloc | refine Turns.via (by assumption) ?_))); have HB7 := HB _ HX7; have hz7 := More.size HX7; (try simp at hz7); have hb7 := hb7)
  refine hK.out _ _ ?_ (fun hHeld => ?_)
  · first | exact (by with_reducible repeat (first | exact Turns.refl _ _ | apply Turns.drew | apply Turns.drewN | apply Turns.alloc | refine Turns.setCell ?_ (by first | (left; simp; done) | (right; simp <;> omega)) _ | refine Turns.via (by assumption) ?_)) | exact (Turns.more (by with_reducible repeat (first | exact Turns.refl _ _ | apply Turns.drew | apply Turns.drewN | apply Turns.alloc | refine Turns.setCellR ?_ (by simp <;> omega) _ | refine Turns.via (by assumption) ?_)))
  clear hK K
  (try simp only [Act.put, List.setIfInBounds_toArray, List.set_cons_zero, List.set_cons_succ])
  refine wpAnyH_ready (rs := [18]) (by kernel_rfl) (by simp) ?_
  refine AllReadyH.cons (o := ⟨some 42, _, _, _, _, _⟩) rfl (fun K hK => ?_) AllReadyH.nil
  go_simp
  (go_at_call 96; (with_reducible refine (spec_RatCmpX t t.1.1 (.slice ta tn tc) (.slice td tm te) (encR (frInt hy)) s4 (.slice r7a r7n r7c) (.slice r7d r7m r7e) _ (Ty.at_more Ht.out (Turns.more (by with_reducible repeat (first | exact Turns.refl _ _ | apply Turns.drew | apply Turns.drewN | apply Turns.alloc | refine Turns.via (by assumption) ?_)))) Wt.out (Ty.at_more G7.out (Turns.more (by with_reducible repeat (first | exact Turns.refl _ _ | apply Turns.drew | apply Turns.drewN | apply Turns.alloc | refine Turns.via (by assumption) ?_)))) WIhy.out).mono ?_); rintro e w8 ⟨rfl, hb8⟩; rw [F.out]; have HX8 : More ((w.alloc (.cells #[.int .i64 lx, .int .i64 ly, .int .i64 hx, .int .i64 hy] 86)).alloc (.cells #[.bool s.1.1, .slice sa sn sc, .slice sd sm se, .bool t.1.1, .slice ta tn tc, .slice td tm te] 89)) w8 := (Turns.more (by with_reducible repeat (first | exact Turns.refl _ _ | apply Turns.drew | apply Turns.drewN | apply Turns.alloc | refine Turns.via (by assumption) ?_))); have HB8 := HB _ HX8; have hz8 := More.size HX8; (try simp at hz8); have hb8 := hb8)
  refine hK.out _ _ ?_ (fun hHeld => ?_)
  · first | exact (by with_reducible repeat (first | exact Turns.refl _ _ | apply Turns.drew | apply Turns.drewN | apply Turns.alloc | refine Turns.setCell ?_ (by first | (left; simp; done) | (right; simp <;> omega)) _ | refine Turns.via (by assumption) ?_)) | exact (Turns.more (by with_reducible repeat (first | exact Turns.refl _ _ | apply Turns.drew | apply Turns.drewN | apply Turns.alloc | refine Turns.setCellR ?_ (by simp <;> omega) _ | refine Turns.via (by assumption) ?_)))
  clear hK K
  (try simp only [Act.put, List.setIfInBounds_toArray, List.set_cons_zero, List.set_cons_succ])
  refine tk (v := ?_) 19 ⟨some 43, _, _, _, _, _⟩ rfl ?_ ?_
  rotate_left 2
  · (intro w hSw; (try dsimp only at hSw); go_simp; (try with_reducible rfl))
  (try simp only [Act.put, List.setIfInBounds_toArray, List.set_cons_zero, List.set_cons_succ])
  refine tk (v := ?_) 20 ⟨some 44, _, _, _, _, _⟩ rfl ?_ ?_
  rotate_left 2
  · (intro w hSw; (try dsimp only at hSw); go_simp; (try with_reducible rfl))
  (try simp only [Act.put, List.setIfInBounds_toArray, List.set_cons_zero, List.set_cons_succ])
  refine tk (v := ?_) 21 ⟨some 4, _, _, _, _, _⟩ rfl ?_ ?_
  rotate_left 2
  · (intro w hSw; (try dsimp only at hSw); go_simp; (try with_reducible rfl))
  (try simp only [Act.put, List.setIfInBounds_toArray, List.set_cons_zero, List.set_cons_succ])
  refine wpAnyH_done (by kernel_rfl) ?_ _
  go_wp2_with fail
  go_ret
  exact ⟨ret_bool (by first | (simp [inBoxB, C.out, D.out, E.out, F.out]; done) | (simp [inBoxB, C.out, D.out, E.out, F.out] <;> omega)), (Turns.more (by with_reducible repeat (first | exact Turns.refl _ _ | apply Turns.drew | apply Turns.drewN | apply Turns.alloc | refine Turns.via (by assumption) ?_)))⟩
end Go.Proofs.Ytkhcblheekfdmaa
