/- The side of a cell. -/
import Derived.Test.YtnndjbomfcacfaaThn
import Derived.Test.YtnndjbomfcacfaaCpy
import Derived.Test.YtnndjbomfcacfaaEqFr
import Derived.Test.YtnndjbomfcacfaaRng
namespace Go.Proofs.Ytnndjbomfcacfaa
open Go.RowKit
def csF (k : QCell) (x : QR) : QR × QR × Bool := if decide (x = k.1) then (k.2.2.1, k.2.2.2.2.1, true) else if decide (x = k.2.1) then (k.2.2.2.1, k.2.2.2.2.2, true) else (((false, []), []), ((false, []), []), false)
theorem pair_fr {B : Nat} {bs : List Nat} {w1 w2 W' : World} {c1 c2 : List Value} {x y : QR} (h1 : tRat.fresh B w1 c1 x) (h2 : tRat.fresh w1.heap.size w2 c2 y) (t1 : Turns bs w1 W') (t2 : Turns bs w2 W') (hk : ∀ k ∈ bs, k < B) (hB : B ≤ w1.heap.size) : tPoint.fresh B W' (c1 ++ c2) (x, y) :=
  Ty.fresh_pairT h1 t1 hk (Ty.fresh_turns h2 t2 (fun k h => by have := hk k h; omega)) hB
theorem zero_fr {B : Nat} {w : World} : tRat.fresh B w [.bool false, .slice none 0 0, .slice none 0 0] ((false, []), []) := by
  have h := RatFr.zero (B := B) (w := w)
  unfold RatFr encR encZ at h
  simpa [limbs_zero] using h
theorem zero2_fr {B : Nat} {w : World} (hB : B ≤ w.heap.size) : tPoint.fresh B w [.bool false, .slice none 0 0, .slice none 0 0, .bool false, .slice none 0 0, .slice none 0 0] (((false, []), []), ((false, []), [])) :=
  pair_fr (bs := []) (c1 := [.bool false, .slice none 0 0, .slice none 0 0]) zero_fr zero_fr (Turns.refl _ _) (Turns.refl _ _) (by simp) hB
theorem csF_parts {k : QCell} {x lo hi : QR} {P : QR → Prop} (h : csF k x = (lo, hi, true)) (h1 : P k.2.2.1) (h2 : P k.2.2.2.1) (h3 : P k.2.2.2.2.1) (h4 : P k.2.2.2.2.2) : P lo ∧ P hi := by
  unfold csF at h
  split at h
  · cases h; exact ⟨h1, h3⟩
  · split at h
    · cases h; exact ⟨h2, h4⟩
    · cases h
theorem csF_w {k : QCell} {x lo hi : QR} {ok : Bool} (h : csF k x = (lo, hi, ok)) (hw : wCell k ≤ 1048576) : wRat lo ≤ 1048576 ∧ wRat hi ≤ 1048576 := by
  unfold wCell at hw
  unfold csF at h
  split at h
  · cases h; exact ⟨by omega, by omega⟩
  · split at h
    · cases h; exact ⟨by omega, by omega⟩
    · cases h; exact ⟨by decide, by decide⟩
set_option maxRecDepth 8000 in
set_option maxHeartbeats 12800000 in
theorem impl_CellSide (cs0 : List Value) (m1 m2 m3 m4 m5 m6 : QR) (cs1 : List Value) (p : QR) (lo hi : QR) (ok : Bool) (w : World) (hv0 : tCell.at w cs0 (m1, m2, m3, m4, m5, m6)) (hw0 : wCell (m1, m2, m3, m4, m5, m6) ≤ 1048576) (hv1 : tRat.at w cs1 p) (hw1 : wRat p ≤ 1048576) (hr : csF (m1, m2, m3, m4, m5, m6) p = (lo, hi, ok)) :
    Calls Try.prog 21 #[.agg cs0.toArray, .agg cs1.toArray] w fun e w' => ∃ u v u' v', e = .returned (.tuple #[.agg #[.bool lo.1.1, u, v], .agg #[.bool hi.1.1, u', v'], .bool ok]) ∧ More w w' ∧ tPoint.fresh w.heap.size w' [.bool lo.1.1, u, v, .bool hi.1.1, u', v'] (lo, hi) := by
  obtain ⟨k0, d0, rfl, f0, e0⟩ := at_prod hv0
  obtain ⟨k1, d1, rfl, f1, e1⟩ := at_prod e0
  obtain ⟨k2, d2, rfl, f2, e2⟩ := at_prod e1
  obtain ⟨k3, d3, rfl, f3, e3⟩ := at_prod e2
  obtain ⟨k4, d4, rfl, f4, e4⟩ := at_prod e3
  have f5 := e4; clear e4
  have f0 : tRat.at w _ m1 := f0
  obtain ⟨m1a, m1n, m1c, m1d, m1m, m1e, rfl⟩ := sh_Rat f0
  have Hm1 := Lib.hid f0; clear f0
  try clear f0
  have Wm1 : Hid (wRat m1 ≤ 1048576) := Lib.hid (by have h := hw0; unfold wCell at h; dsimp only at h; omega)
  have f1 : tRat.at w _ m2 := f1
  obtain ⟨m2a, m2n, m2c, m2d, m2m, m2e, rfl⟩ := sh_Rat f1
  have Hm2 := Lib.hid f1; clear f1
  try clear f1
  have Wm2 : Hid (wRat m2 ≤ 1048576) := Lib.hid (by have h := hw0; unfold wCell at h; dsimp only at h; omega)
  have f2 : tRat.at w _ m3 := f2
  obtain ⟨m3a, m3n, m3c, m3d, m3m, m3e, rfl⟩ := sh_Rat f2
  have Hm3 := Lib.hid f2; clear f2
  try clear f2
  have Wm3 : Hid (wRat m3 ≤ 1048576) := Lib.hid (by have h := hw0; unfold wCell at h; dsimp only at h; omega)
  have f3 : tRat.at w _ m4 := f3
  obtain ⟨m4a, m4n, m4c, m4d, m4m, m4e, rfl⟩ := sh_Rat f3
  have Hm4 := Lib.hid f3; clear f3
  try clear f3
  have Wm4 : Hid (wRat m4 ≤ 1048576) := Lib.hid (by have h := hw0; unfold wCell at h; dsimp only at h; omega)
  have f4 : tRat.at w _ m5 := f4
  obtain ⟨m5a, m5n, m5c, m5d, m5m, m5e, rfl⟩ := sh_Rat f4
  have Hm5 := Lib.hid f4; clear f4
  try clear f4
  have Wm5 : Hid (wRat m5 ≤ 1048576) := Lib.hid (by have h := hw0; unfold wCell at h; dsimp only at h; omega)
  have f5 : tRat.at w _ m6 := f5
  obtain ⟨m6a, m6n, m6c, m6d, m6m, m6e, rfl⟩ := sh_Rat f5
  have Hm6 := Lib.hid f5; clear f5
  try clear f5
  have Wm6 : Hid (wRat m6 ≤ 1048576) := Lib.hid (by have h := hw0; unfold wCell at h; dsimp only at h; omega)
  try clear e0 e1 e2 e3 e4 e5
  have HV0 : Hid (tCell.at w [.bool m1.1.1, .slice m1a m1n m1c, .slice m1d m1m m1e, .bool m2.1.1, .slice m2a m2n m2c, .slice m2d m2m m2e, .bool m3.1.1, .slice m3a m3n m3c, .slice m3d m3m m3e, .bool m4.1.1, .slice m4a m4n m4c, .slice m4d m4m m4e, .bool m5.1.1, .slice m5a m5n m5c, .slice m5d m5m m5e, .bool m6.1.1, .slice m6a m6n m6c, .slice m6d m6m m6e] (m1, m2, m3, m4, m5, m6)) := Lib.hid hv0; have HW0 := Lib.hid hw0; clear hv0 hw0
  obtain ⟨pa, pn, pc, pd, pm, pe, rfl⟩ := sh_Rat hv1
  have Hp := Lib.hid hv1; have Wp := Lib.hid hw1
  have HV1 : Hid (tRat.at w [.bool p.1.1, .slice pa pn pc, .slice pd pm pe] p) := Lib.hid hv1; have HW1 := Lib.hid hw1; clear hv1 hw1
  show Calls Try.prog 21 #[.agg #[.bool m1.1.1, .slice m1a m1n m1c, .slice m1d m1m m1e, .bool m2.1.1, .slice m2a m2n m2c, .slice m2d m2m m2e, .bool m3.1.1, .slice m3a m3n m3c, .slice m3d m3m m3e, .bool m4.1.1, .slice m4a m4n m4c, .slice m4d m4m m4e, .bool m5.1.1, .slice m5a m5n m5c, .slice m5d m5m m5e, .bool m6.1.1, .slice m6a m6n m6c, .slice m6d m6m m6e], .agg #[.bool p.1.1, .slice pa pn pc, .slice pd pm pe]] w _
  rcases Bool.eq_false_or_eq_true (decide (p = m1)) with h1 | h1
  · have hq : (m3, m5, true) = (lo, hi, ok) := by rw [← hr]; unfold csF; dsimp only; rw [h1]; rfl
    have E1 := Lib.hid h1; clear h1 hr
    cases hq
    have HX := More.refl ((((w.alloc (.cells #[.bool m1.1.1, .slice m1a m1n m1c, .slice m1d m1m m1e, .bool m2.1.1, .slice m2a m2n m2c, .slice m2d m2m m2e, .bool m3.1.1, .slice m3a m3n m3c, .slice m3d m3m m3e, .bool m4.1.1, .slice m4a m4n m4c, .slice m4d m4m m4e, .bool m5.1.1, .slice m5a m5n m5c, .slice m5d m5m m5e, .bool m6.1.1, .slice m6a m6n m6c, .slice m6d m6m m6e] 59)).alloc (.cells #[.bool p.1.1, .slice pa pn pc, .slice pd pm pe] 55)).alloc (.cells #[.bool false, .slice none 0 0, .slice none 0 0] 55)).alloc (.cells #[.bool false, .slice none 0 0, .slice none 0 0] 55))
    have HC := fun (w' : World) (h : Turns [w.heap.size + 1 + 1, w.heap.size + 1 + 1 + 1] ((((w.alloc (.cells #[.bool m1.1.1, .slice m1a m1n m1c, .slice m1d m1m m1e, .bool m2.1.1, .slice m2a m2n m2c, .slice m2d m2m m2e, .bool m3.1.1, .slice m3a m3n m3c, .slice m3d m3m m3e, .bool m4.1.1, .slice m4a m4n m4c, .slice m4d m4m m4e, .bool m5.1.1, .slice m5a m5n m5c, .slice m5d m5m m5e, .bool m6.1.1, .slice m6a m6n m6c, .slice m6d m6m m6e] 59)).alloc (.cells #[.bool p.1.1, .slice pa pn pc, .slice pd pm pe] 55)).alloc (.cells #[.bool false, .slice none 0 0, .slice none 0 0] 55)).alloc (.cells #[.bool false, .slice none 0 0, .slice none 0 0] 55)) w') => And.intro (bt18 (w.heap.size) (by simp) (More.un (More.un (More.un (More.refl _)))) h (by simp <;> omega) (by simp <;> omega)) (bt3 (w.heap.size + 1) (by simp) (More.un (More.un (More.refl _))) h (by simp <;> omega) (by simp <;> omega))
    have HB := fun (w' : World) (h : More ((((w.alloc (.cells #[.bool m1.1.1, .slice m1a m1n m1c, .slice m1d m1m m1e, .bool m2.1.1, .slice m2a m2n m2c, .slice m2d m2m m2e, .bool m3.1.1, .slice m3a m3n m3c, .slice m3d m3m m3e, .bool m4.1.1, .slice m4a m4n m4c, .slice m4d m4m m4e, .bool m5.1.1, .slice m5a m5n m5c, .slice m5d m5m m5e, .bool m6.1.1, .slice m6a m6n m6c, .slice m6d m6m m6e] 59)).alloc (.cells #[.bool p.1.1, .slice pa pn pc, .slice pd pm pe] 55)).alloc (.cells #[.bool false, .slice none 0 0, .slice none 0 0] 55)).alloc (.cells #[.bool false, .slice none 0 0, .slice none 0 0] 55)) w') => And.intro (bx18 (w.heap.size) (by simp) (More.un (More.un (More.un h)))) (And.intro (bx3 (w.heap.size + 1) (by simp) (More.un (More.un h))) (And.intro (bx3 (w.heap.size + 1 + 1) (by simp) (More.un h)) (bx3 (w.heap.size + 1 + 1 + 1) (by simp) h)))
    go_enter Try.func21, Try.ntmps21
    go_wp2_with (first | (go_at_call 47; (with_reducible refine (impl_RatEqual _ _ p m1 _ (Ty.at_more Hp.out mC) (Ty.at_more Hm1.out mC) Wp.out Wm1.out).mono ?_); rintro e w1 ⟨rfl, hb1⟩; have HX1 := More.trans HX (show More _ w1 from mC); have HB1 := HB _ HX1; have hz1 := More.size HX1; (try simp at hz1); have hb1 := hb1; rw [E1.out]))
    go_region_held3 (fun w' => Turns [w.heap.size + 1 + 1, w.heap.size + 1 + 1 + 1] ((((w.alloc (.cells #[.bool m1.1.1, .slice m1a m1n m1c, .slice m1d m1m m1e, .bool m2.1.1, .slice m2a m2n m2c, .slice m2d m2m m2e, .bool m3.1.1, .slice m3a m3n m3c, .slice m3d m3m m3e, .bool m4.1.1, .slice m4a m4n m4c, .slice m4d m4m m4e, .bool m5.1.1, .slice m5a m5n m5c, .slice m5d m5m m5e, .bool m6.1.1, .slice m6a m6n m6c, .slice m6d m6m m6e] 59)).alloc (.cells #[.bool p.1.1, .slice pa pn pc, .slice pd pm pe] 55)).alloc (.cells #[.bool false, .slice none 0 0, .slice none 0 0] 55)).alloc (.cells #[.bool false, .slice none 0 0, .slice none 0 0] 55)) w') (first | exact tC | exact mC2) (first | (go_at_call 48; (with_reducible refine (impl_ownRat _ m3 _ (Ty.at_more Hm3.out mC) Wm3.out).mono ?_); rintro e w3 ⟨u3, v3, rfl, hb3, f3⟩; obtain ⟨r3a, r3n, r3c, r3d, r3m, r3e, e9⟩ := sh_Rat (Ty.fresh_at f3); simp only [List.cons.injEq, and_true, true_and] at e9; obtain ⟨e8, e9⟩ := e9; subst e8; subst e9; have F3 := Lib.hid f3; clear f3; have HX3 := More.trans HX (show More _ w3 from mC); have HB3 := HB _ HX3; have hz3 := More.size HX3; (try simp at hz3); have hb3 := hb3) | (go_at_call 48; (with_reducible refine (impl_ownRat _ m5 _ (Ty.at_more Hm5.out mC) Wm5.out).mono ?_); rintro e w4 ⟨u4, v4, rfl, hb4, f4⟩; obtain ⟨r4a, r4n, r4c, r4d, r4m, r4e, e9⟩ := sh_Rat (Ty.fresh_at f4); simp only [List.cons.injEq, and_true, true_and] at e9; obtain ⟨e8, e9⟩ := e9; subst e8; subst e9; have F4 := Lib.hid f4; clear f4; have HX4 := More.trans HX (show More _ w4 from mC); have HB4 := HB _ HX4; have hz4 := More.size HX4; (try simp at hz4); have hb4 := hb4))
    all_goals
      go_wp2_with fail
      refine bodyPost_ret (v := .tuple #[.agg #[.bool m3.1.1, .slice r3a r3n r3c, .slice r3d r3m r3e], .agg #[.bool m5.1.1, .slice r4a r4n r4c, .slice r4d r4m r4e], .bool true]) ?_ rfl ?_
      · simp [results, Try.results21, go_sem, *]
      · exact ⟨_, _, _, _, rfl, mC2, Ty.fresh_mono (pair_fr (bs := [w.heap.size + 1 + 1, w.heap.size + 1 + 1 + 1]) (B := ((((w.alloc (.cells #[.bool m1.1.1, .slice m1a m1n m1c, .slice m1d m1m m1e, .bool m2.1.1, .slice m2a m2n m2c, .slice m2d m2m m2e, .bool m3.1.1, .slice m3a m3n m3c, .slice m3d m3m m3e, .bool m4.1.1, .slice m4a m4n m4c, .slice m4d m4m m4e, .bool m5.1.1, .slice m5a m5n m5c, .slice m5d m5m m5e, .bool m6.1.1, .slice m6a m6n m6c, .slice m6d m6m m6e] 59)).alloc (.cells #[.bool p.1.1, .slice pa pn pc, .slice pd pm pe] 55)).alloc (.cells #[.bool false, .slice none 0 0, .slice none 0 0] 55)).alloc (.cells #[.bool false, .slice none 0 0, .slice none 0 0] 55)).heap.size) (c1 := [.bool m3.1.1, .slice r3a r3n r3c, .slice r3d r3m r3e]) (Ty.fresh_mono F3.out (by have h7 := hz3; have h8 := hz4; have h1 := hb3.size; have h2 := hb4.size; (try simp at h7 h8 h1 h2); simp <;> omega)) (Ty.fresh_mono F4.out (by have h7 := hz3; have h8 := hz4; have h1 := hb3.size; have h2 := hb4.size; (try simp at h7 h8 h1 h2); simp <;> omega)) tC tC (by simp <;> omega) (by have h7 := hz3; have h8 := hz4; have h1 := hb3.size; have h2 := hb4.size; (try simp at h7 h8 h1 h2); simp <;> omega)) (by simp; try omega)⟩
  rcases Bool.eq_false_or_eq_true (decide (p = m2)) with h2 | h2
  · have hq : (m4, m6, true) = (lo, hi, ok) := by rw [← hr]; unfold csF; dsimp only; rw [h1, h2]; rfl
    have E1 := Lib.hid h1; have E2 := Lib.hid h2; clear h1 h2 hr
    cases hq
    have HX := More.refl ((((w.alloc (.cells #[.bool m1.1.1, .slice m1a m1n m1c, .slice m1d m1m m1e, .bool m2.1.1, .slice m2a m2n m2c, .slice m2d m2m m2e, .bool m3.1.1, .slice m3a m3n m3c, .slice m3d m3m m3e, .bool m4.1.1, .slice m4a m4n m4c, .slice m4d m4m m4e, .bool m5.1.1, .slice m5a m5n m5c, .slice m5d m5m m5e, .bool m6.1.1, .slice m6a m6n m6c, .slice m6d m6m m6e] 59)).alloc (.cells #[.bool p.1.1, .slice pa pn pc, .slice pd pm pe] 55)).alloc (.cells #[.bool false, .slice none 0 0, .slice none 0 0] 55)).alloc (.cells #[.bool false, .slice none 0 0, .slice none 0 0] 55))
    have HC := fun (w' : World) (h : Turns [w.heap.size + 1 + 1, w.heap.size + 1 + 1 + 1] ((((w.alloc (.cells #[.bool m1.1.1, .slice m1a m1n m1c, .slice m1d m1m m1e, .bool m2.1.1, .slice m2a m2n m2c, .slice m2d m2m m2e, .bool m3.1.1, .slice m3a m3n m3c, .slice m3d m3m m3e, .bool m4.1.1, .slice m4a m4n m4c, .slice m4d m4m m4e, .bool m5.1.1, .slice m5a m5n m5c, .slice m5d m5m m5e, .bool m6.1.1, .slice m6a m6n m6c, .slice m6d m6m m6e] 59)).alloc (.cells #[.bool p.1.1, .slice pa pn pc, .slice pd pm pe] 55)).alloc (.cells #[.bool false, .slice none 0 0, .slice none 0 0] 55)).alloc (.cells #[.bool false, .slice none 0 0, .slice none 0 0] 55)) w') => And.intro (bt18 (w.heap.size) (by simp) (More.un (More.un (More.un (More.refl _)))) h (by simp <;> omega) (by simp <;> omega)) (bt3 (w.heap.size + 1) (by simp) (More.un (More.un (More.refl _))) h (by simp <;> omega) (by simp <;> omega))
    have HB := fun (w' : World) (h : More ((((w.alloc (.cells #[.bool m1.1.1, .slice m1a m1n m1c, .slice m1d m1m m1e, .bool m2.1.1, .slice m2a m2n m2c, .slice m2d m2m m2e, .bool m3.1.1, .slice m3a m3n m3c, .slice m3d m3m m3e, .bool m4.1.1, .slice m4a m4n m4c, .slice m4d m4m m4e, .bool m5.1.1, .slice m5a m5n m5c, .slice m5d m5m m5e, .bool m6.1.1, .slice m6a m6n m6c, .slice m6d m6m m6e] 59)).alloc (.cells #[.bool p.1.1, .slice pa pn pc, .slice pd pm pe] 55)).alloc (.cells #[.bool false, .slice none 0 0, .slice none 0 0] 55)).alloc (.cells #[.bool false, .slice none 0 0, .slice none 0 0] 55)) w') => And.intro (bx18 (w.heap.size) (by simp) (More.un (More.un (More.un h)))) (And.intro (bx3 (w.heap.size + 1) (by simp) (More.un (More.un h))) (And.intro (bx3 (w.heap.size + 1 + 1) (by simp) (More.un h)) (bx3 (w.heap.size + 1 + 1 + 1) (by simp) h)))
    go_enter Try.func21, Try.ntmps21
    go_wp2_with (first | (go_at_call 47; (with_reducible refine (impl_RatEqual _ _ p m1 _ (Ty.at_more Hp.out mC) (Ty.at_more Hm1.out mC) Wp.out Wm1.out).mono ?_); rintro e w1 ⟨rfl, hb1⟩; have HX1 := More.trans HX (show More _ w1 from mC); have HB1 := HB _ HX1; have hz1 := More.size HX1; (try simp at hz1); have hb1 := hb1; rw [E1.out]) | (go_at_call 47; (with_reducible refine (impl_RatEqual _ _ p m2 _ (Ty.at_more Hp.out mC) (Ty.at_more Hm2.out mC) Wp.out Wm2.out).mono ?_); rintro e w2 ⟨rfl, hb2⟩; have HX2 := More.trans HX (show More _ w2 from mC); have HB2 := HB _ HX2; have hz2 := More.size HX2; (try simp at hz2); have hb2 := hb2; rw [E2.out]))
    go_region_held3 (fun w' => Turns [w.heap.size + 1 + 1, w.heap.size + 1 + 1 + 1] ((((w.alloc (.cells #[.bool m1.1.1, .slice m1a m1n m1c, .slice m1d m1m m1e, .bool m2.1.1, .slice m2a m2n m2c, .slice m2d m2m m2e, .bool m3.1.1, .slice m3a m3n m3c, .slice m3d m3m m3e, .bool m4.1.1, .slice m4a m4n m4c, .slice m4d m4m m4e, .bool m5.1.1, .slice m5a m5n m5c, .slice m5d m5m m5e, .bool m6.1.1, .slice m6a m6n m6c, .slice m6d m6m m6e] 59)).alloc (.cells #[.bool p.1.1, .slice pa pn pc, .slice pd pm pe] 55)).alloc (.cells #[.bool false, .slice none 0 0, .slice none 0 0] 55)).alloc (.cells #[.bool false, .slice none 0 0, .slice none 0 0] 55)) w') (first | exact tC | exact mC2) (first | (go_at_call 48; (with_reducible refine (impl_ownRat _ m4 _ (Ty.at_more Hm4.out mC) Wm4.out).mono ?_); rintro e w3 ⟨u3, v3, rfl, hb3, f3⟩; obtain ⟨r3a, r3n, r3c, r3d, r3m, r3e, e9⟩ := sh_Rat (Ty.fresh_at f3); simp only [List.cons.injEq, and_true, true_and] at e9; obtain ⟨e8, e9⟩ := e9; subst e8; subst e9; have F3 := Lib.hid f3; clear f3; have HX3 := More.trans HX (show More _ w3 from mC); have HB3 := HB _ HX3; have hz3 := More.size HX3; (try simp at hz3); have hb3 := hb3) | (go_at_call 48; (with_reducible refine (impl_ownRat _ m6 _ (Ty.at_more Hm6.out mC) Wm6.out).mono ?_); rintro e w4 ⟨u4, v4, rfl, hb4, f4⟩; obtain ⟨r4a, r4n, r4c, r4d, r4m, r4e, e9⟩ := sh_Rat (Ty.fresh_at f4); simp only [List.cons.injEq, and_true, true_and] at e9; obtain ⟨e8, e9⟩ := e9; subst e8; subst e9; have F4 := Lib.hid f4; clear f4; have HX4 := More.trans HX (show More _ w4 from mC); have HB4 := HB _ HX4; have hz4 := More.size HX4; (try simp at hz4); have hb4 := hb4))
    all_goals
      go_wp2_with fail
      refine bodyPost_ret (v := .tuple #[.agg #[.bool m4.1.1, .slice r3a r3n r3c, .slice r3d r3m r3e], .agg #[.bool m6.1.1, .slice r4a r4n r4c, .slice r4d r4m r4e], .bool true]) ?_ rfl ?_
      · simp [results, Try.results21, go_sem, *]
      · exact ⟨_, _, _, _, rfl, mC2, Ty.fresh_mono (pair_fr (bs := [w.heap.size + 1 + 1, w.heap.size + 1 + 1 + 1]) (B := ((((w.alloc (.cells #[.bool m1.1.1, .slice m1a m1n m1c, .slice m1d m1m m1e, .bool m2.1.1, .slice m2a m2n m2c, .slice m2d m2m m2e, .bool m3.1.1, .slice m3a m3n m3c, .slice m3d m3m m3e, .bool m4.1.1, .slice m4a m4n m4c, .slice m4d m4m m4e, .bool m5.1.1, .slice m5a m5n m5c, .slice m5d m5m m5e, .bool m6.1.1, .slice m6a m6n m6c, .slice m6d m6m m6e] 59)).alloc (.cells #[.bool p.1.1, .slice pa pn pc, .slice pd pm pe] 55)).alloc (.cells #[.bool false, .slice none 0 0, .slice none 0 0] 55)).alloc (.cells #[.bool false, .slice none 0 0, .slice none 0 0] 55)).heap.size) (c1 := [.bool m4.1.1, .slice r3a r3n r3c, .slice r3d r3m r3e]) (Ty.fresh_mono F3.out (by have h7 := hz3; have h8 := hz4; have h1 := hb3.size; have h2 := hb4.size; (try simp at h7 h8 h1 h2); simp <;> omega)) (Ty.fresh_mono F4.out (by have h7 := hz3; have h8 := hz4; have h1 := hb3.size; have h2 := hb4.size; (try simp at h7 h8 h1 h2); simp <;> omega)) tC tC (by simp <;> omega) (by have h7 := hz3; have h8 := hz4; have h1 := hb3.size; have h2 := hb4.size; (try simp at h7 h8 h1 h2); simp <;> omega)) (by simp; try omega)⟩
  have hq : ((((false, []), []) : QR), (((false, []), []) : QR), false) = (lo, hi, ok) := by rw [← hr]; unfold csF; dsimp only; rw [h1, h2]; rfl
  have E1 := Lib.hid h1; have E2 := Lib.hid h2; clear h1 h2 hr
  cases hq
  have HX := More.refl ((((w.alloc (.cells #[.bool m1.1.1, .slice m1a m1n m1c, .slice m1d m1m m1e, .bool m2.1.1, .slice m2a m2n m2c, .slice m2d m2m m2e, .bool m3.1.1, .slice m3a m3n m3c, .slice m3d m3m m3e, .bool m4.1.1, .slice m4a m4n m4c, .slice m4d m4m m4e, .bool m5.1.1, .slice m5a m5n m5c, .slice m5d m5m m5e, .bool m6.1.1, .slice m6a m6n m6c, .slice m6d m6m m6e] 59)).alloc (.cells #[.bool p.1.1, .slice pa pn pc, .slice pd pm pe] 55)).alloc (.cells #[.bool false, .slice none 0 0, .slice none 0 0] 55)).alloc (.cells #[.bool false, .slice none 0 0, .slice none 0 0] 55))
  have HC := fun (w' : World) (h : Turns [w.heap.size + 1 + 1, w.heap.size + 1 + 1 + 1] ((((w.alloc (.cells #[.bool m1.1.1, .slice m1a m1n m1c, .slice m1d m1m m1e, .bool m2.1.1, .slice m2a m2n m2c, .slice m2d m2m m2e, .bool m3.1.1, .slice m3a m3n m3c, .slice m3d m3m m3e, .bool m4.1.1, .slice m4a m4n m4c, .slice m4d m4m m4e, .bool m5.1.1, .slice m5a m5n m5c, .slice m5d m5m m5e, .bool m6.1.1, .slice m6a m6n m6c, .slice m6d m6m m6e] 59)).alloc (.cells #[.bool p.1.1, .slice pa pn pc, .slice pd pm pe] 55)).alloc (.cells #[.bool false, .slice none 0 0, .slice none 0 0] 55)).alloc (.cells #[.bool false, .slice none 0 0, .slice none 0 0] 55)) w') => And.intro (bt18 (w.heap.size) (by simp) (More.un (More.un (More.un (More.refl _)))) h (by simp <;> omega) (by simp <;> omega)) (bt3 (w.heap.size + 1) (by simp) (More.un (More.un (More.refl _))) h (by simp <;> omega) (by simp <;> omega))
  have HB := fun (w' : World) (h : More ((((w.alloc (.cells #[.bool m1.1.1, .slice m1a m1n m1c, .slice m1d m1m m1e, .bool m2.1.1, .slice m2a m2n m2c, .slice m2d m2m m2e, .bool m3.1.1, .slice m3a m3n m3c, .slice m3d m3m m3e, .bool m4.1.1, .slice m4a m4n m4c, .slice m4d m4m m4e, .bool m5.1.1, .slice m5a m5n m5c, .slice m5d m5m m5e, .bool m6.1.1, .slice m6a m6n m6c, .slice m6d m6m m6e] 59)).alloc (.cells #[.bool p.1.1, .slice pa pn pc, .slice pd pm pe] 55)).alloc (.cells #[.bool false, .slice none 0 0, .slice none 0 0] 55)).alloc (.cells #[.bool false, .slice none 0 0, .slice none 0 0] 55)) w') => And.intro (bx18 (w.heap.size) (by simp) (More.un (More.un (More.un h)))) (And.intro (bx3 (w.heap.size + 1) (by simp) (More.un (More.un h))) (And.intro (bx3 (w.heap.size + 1 + 1) (by simp) (More.un h)) (bx3 (w.heap.size + 1 + 1 + 1) (by simp) h)))
  go_enter Try.func21, Try.ntmps21
  go_wp2_with (first | (go_at_call 47; (with_reducible refine (impl_RatEqual _ _ p m1 _ (Ty.at_more Hp.out mC) (Ty.at_more Hm1.out mC) Wp.out Wm1.out).mono ?_); rintro e w1 ⟨rfl, hb1⟩; have HX1 := More.trans HX (show More _ w1 from mC); have HB1 := HB _ HX1; have hz1 := More.size HX1; (try simp at hz1); have hb1 := hb1; rw [E1.out]) | (go_at_call 47; (with_reducible refine (impl_RatEqual _ _ p m2 _ (Ty.at_more Hp.out mC) (Ty.at_more Hm2.out mC) Wp.out Wm2.out).mono ?_); rintro e w2 ⟨rfl, hb2⟩; have HX2 := More.trans HX (show More _ w2 from mC); have HB2 := HB _ HX2; have hz2 := More.size HX2; (try simp at hz2); have hb2 := hb2; rw [E2.out]))
  refine bodyPost_ret (v := .tuple #[.agg #[.bool false, .slice none 0 0, .slice none 0 0], .agg #[.bool false, .slice none 0 0, .slice none 0 0], .bool false]) ?_ rfl ?_
  · simp [results, Try.results21, go_sem, *]
  · exact ⟨_, _, _, _, rfl, mC2, zero2_fr (More.size mC2)⟩
set_option maxRecDepth 8000 in
set_option maxHeartbeats 12800000 in
theorem spec_CellSide (cs0 : List Value) (m1 m2 m3 m4 m5 m6 : QR) (cs1 : List Value) (p : QR) (lo hi : QR) (ok : Bool) (w : World) (hv0 : tCell.at w cs0 (m1, m2, m3, m4, m5, m6)) (hw0 : wCell (m1, m2, m3, m4, m5, m6) ≤ 1048576) (hv1 : tRat.at w cs1 p) (hw1 : wRat p ≤ 1048576) (hr : csF (m1, m2, m3, m4, m5, m6) p = (lo, hi, ok)) :
    Calls Try.prog 18 #[.agg cs0.toArray, .agg cs1.toArray] w fun e w' => ∃ u v u' v', e = .returned (.tuple #[.agg #[.bool lo.1.1, u, v], .agg #[.bool hi.1.1, u', v'], .bool ok]) ∧ More w w' ∧ tPoint.fresh w.heap.size w' [.bool lo.1.1, u, v, .bool hi.1.1, u', v'] (lo, hi) := by
  obtain ⟨k0, d0, rfl, f0, e0⟩ := at_prod hv0
  obtain ⟨k1, d1, rfl, f1, e1⟩ := at_prod e0
  obtain ⟨k2, d2, rfl, f2, e2⟩ := at_prod e1
  obtain ⟨k3, d3, rfl, f3, e3⟩ := at_prod e2
  obtain ⟨k4, d4, rfl, f4, e4⟩ := at_prod e3
  have f5 := e4; clear e4
  have f0 : tRat.at w _ m1 := f0
  obtain ⟨m1a, m1n, m1c, m1d, m1m, m1e, rfl⟩ := sh_Rat f0
  have Hm1 := Lib.hid f0; clear f0
  try clear f0
  have Wm1 : Hid (wRat m1 ≤ 1048576) := Lib.hid (by have h := hw0; unfold wCell at h; dsimp only at h; omega)
  have f1 : tRat.at w _ m2 := f1
  obtain ⟨m2a, m2n, m2c, m2d, m2m, m2e, rfl⟩ := sh_Rat f1
  have Hm2 := Lib.hid f1; clear f1
  try clear f1
  have Wm2 : Hid (wRat m2 ≤ 1048576) := Lib.hid (by have h := hw0; unfold wCell at h; dsimp only at h; omega)
  have f2 : tRat.at w _ m3 := f2
  obtain ⟨m3a, m3n, m3c, m3d, m3m, m3e, rfl⟩ := sh_Rat f2
  have Hm3 := Lib.hid f2; clear f2
  try clear f2
  have Wm3 : Hid (wRat m3 ≤ 1048576) := Lib.hid (by have h := hw0; unfold wCell at h; dsimp only at h; omega)
  have f3 : tRat.at w _ m4 := f3
  obtain ⟨m4a, m4n, m4c, m4d, m4m, m4e, rfl⟩ := sh_Rat f3
  have Hm4 := Lib.hid f3; clear f3
  try clear f3
  have Wm4 : Hid (wRat m4 ≤ 1048576) := Lib.hid (by have h := hw0; unfold wCell at h; dsimp only at h; omega)
  have f4 : tRat.at w _ m5 := f4
  obtain ⟨m5a, m5n, m5c, m5d, m5m, m5e, rfl⟩ := sh_Rat f4
  have Hm5 := Lib.hid f4; clear f4
  try clear f4
  have Wm5 : Hid (wRat m5 ≤ 1048576) := Lib.hid (by have h := hw0; unfold wCell at h; dsimp only at h; omega)
  have f5 : tRat.at w _ m6 := f5
  obtain ⟨m6a, m6n, m6c, m6d, m6m, m6e, rfl⟩ := sh_Rat f5
  have Hm6 := Lib.hid f5; clear f5
  try clear f5
  have Wm6 : Hid (wRat m6 ≤ 1048576) := Lib.hid (by have h := hw0; unfold wCell at h; dsimp only at h; omega)
  try clear e0 e1 e2 e3 e4 e5
  have HV0 : Hid (tCell.at w [.bool m1.1.1, .slice m1a m1n m1c, .slice m1d m1m m1e, .bool m2.1.1, .slice m2a m2n m2c, .slice m2d m2m m2e, .bool m3.1.1, .slice m3a m3n m3c, .slice m3d m3m m3e, .bool m4.1.1, .slice m4a m4n m4c, .slice m4d m4m m4e, .bool m5.1.1, .slice m5a m5n m5c, .slice m5d m5m m5e, .bool m6.1.1, .slice m6a m6n m6c, .slice m6d m6m m6e] (m1, m2, m3, m4, m5, m6)) := Lib.hid hv0; have HW0 := Lib.hid hw0; clear hv0 hw0
  obtain ⟨pa, pn, pc, pd, pm, pe, rfl⟩ := sh_Rat hv1
  have Hp := Lib.hid hv1; have Wp := Lib.hid hw1
  have HV1 : Hid (tRat.at w [.bool p.1.1, .slice pa pn pc, .slice pd pm pe] p) := Lib.hid hv1; have HW1 := Lib.hid hw1; clear hv1 hw1
  show Calls Try.prog 18 #[.agg #[.bool m1.1.1, .slice m1a m1n m1c, .slice m1d m1m m1e, .bool m2.1.1, .slice m2a m2n m2c, .slice m2d m2m m2e, .bool m3.1.1, .slice m3a m3n m3c, .slice m3d m3m m3e, .bool m4.1.1, .slice m4a m4n m4c, .slice m4d m4m m4e, .bool m5.1.1, .slice m5a m5n m5c, .slice m5d m5m m5e, .bool m6.1.1, .slice m6a m6n m6c, .slice m6d m6m m6e], .agg #[.bool p.1.1, .slice pa pn pc, .slice pd pm pe]] w _
  rcases Bool.eq_false_or_eq_true (decide (p = m1)) with h1 | h1
  · have hq : (m3, m5, true) = (lo, hi, ok) := by rw [← hr]; unfold csF; dsimp only; rw [h1]; rfl
    have E1 := Lib.hid h1; clear h1 hr
    cases hq
    have HX := More.refl ((((w.alloc (.cells #[.bool m1.1.1, .slice m1a m1n m1c, .slice m1d m1m m1e, .bool m2.1.1, .slice m2a m2n m2c, .slice m2d m2m m2e, .bool m3.1.1, .slice m3a m3n m3c, .slice m3d m3m m3e, .bool m4.1.1, .slice m4a m4n m4c, .slice m4d m4m m4e, .bool m5.1.1, .slice m5a m5n m5c, .slice m5d m5m m5e, .bool m6.1.1, .slice m6a m6n m6c, .slice m6d m6m m6e] 59)).alloc (.cells #[.bool p.1.1, .slice pa pn pc, .slice pd pm pe] 55)).alloc (.cells #[.bool false, .slice none 0 0, .slice none 0 0] 55)).alloc (.cells #[.bool false, .slice none 0 0, .slice none 0 0] 55))
    have HC := fun (w' : World) (h : Turns [w.heap.size + 1 + 1, w.heap.size + 1 + 1 + 1] ((((w.alloc (.cells #[.bool m1.1.1, .slice m1a m1n m1c, .slice m1d m1m m1e, .bool m2.1.1, .slice m2a m2n m2c, .slice m2d m2m m2e, .bool m3.1.1, .slice m3a m3n m3c, .slice m3d m3m m3e, .bool m4.1.1, .slice m4a m4n m4c, .slice m4d m4m m4e, .bool m5.1.1, .slice m5a m5n m5c, .slice m5d m5m m5e, .bool m6.1.1, .slice m6a m6n m6c, .slice m6d m6m m6e] 59)).alloc (.cells #[.bool p.1.1, .slice pa pn pc, .slice pd pm pe] 55)).alloc (.cells #[.bool false, .slice none 0 0, .slice none 0 0] 55)).alloc (.cells #[.bool false, .slice none 0 0, .slice none 0 0] 55)) w') => And.intro (bt18 (w.heap.size) (by simp) (More.un (More.un (More.un (More.refl _)))) h (by simp <;> omega) (by simp <;> omega)) (bt3 (w.heap.size + 1) (by simp) (More.un (More.un (More.refl _))) h (by simp <;> omega) (by simp <;> omega))
    have HB := fun (w' : World) (h : More ((((w.alloc (.cells #[.bool m1.1.1, .slice m1a m1n m1c, .slice m1d m1m m1e, .bool m2.1.1, .slice m2a m2n m2c, .slice m2d m2m m2e, .bool m3.1.1, .slice m3a m3n m3c, .slice m3d m3m m3e, .bool m4.1.1, .slice m4a m4n m4c, .slice m4d m4m m4e, .bool m5.1.1, .slice m5a m5n m5c, .slice m5d m5m m5e, .bool m6.1.1, .slice m6a m6n m6c, .slice m6d m6m m6e] 59)).alloc (.cells #[.bool p.1.1, .slice pa pn pc, .slice pd pm pe] 55)).alloc (.cells #[.bool false, .slice none 0 0, .slice none 0 0] 55)).alloc (.cells #[.bool false, .slice none 0 0, .slice none 0 0] 55)) w') => And.intro (bx18 (w.heap.size) (by simp) (More.un (More.un (More.un h)))) (And.intro (bx3 (w.heap.size + 1) (by simp) (More.un (More.un h))) (And.intro (bx3 (w.heap.size + 1 + 1) (by simp) (More.un h)) (bx3 (w.heap.size + 1 + 1 + 1) (by simp) h)))
    go_enter Try.func18, Try.ntmps18
    go_wp2_with (first | (go_at_call 43; (with_reducible refine (spec_RatEqual _ _ p m1 _ (Ty.at_more Hp.out mC) (Ty.at_more Hm1.out mC) Wp.out Wm1.out).mono ?_); rintro e w1 ⟨rfl, hb1⟩; have HX1 := More.trans HX (show More _ w1 from mC); have HB1 := HB _ HX1; have hz1 := More.size HX1; (try simp at hz1); have hb1 := hb1; rw [E1.out]))
    go_region_held3 (fun w' => Turns [w.heap.size + 1 + 1, w.heap.size + 1 + 1 + 1] ((((w.alloc (.cells #[.bool m1.1.1, .slice m1a m1n m1c, .slice m1d m1m m1e, .bool m2.1.1, .slice m2a m2n m2c, .slice m2d m2m m2e, .bool m3.1.1, .slice m3a m3n m3c, .slice m3d m3m m3e, .bool m4.1.1, .slice m4a m4n m4c, .slice m4d m4m m4e, .bool m5.1.1, .slice m5a m5n m5c, .slice m5d m5m m5e, .bool m6.1.1, .slice m6a m6n m6c, .slice m6d m6m m6e] 59)).alloc (.cells #[.bool p.1.1, .slice pa pn pc, .slice pd pm pe] 55)).alloc (.cells #[.bool false, .slice none 0 0, .slice none 0 0] 55)).alloc (.cells #[.bool false, .slice none 0 0, .slice none 0 0] 55)) w') (first | exact tC | exact mC2) (first | (go_at_call 44; (with_reducible refine (spec_l04CopyR _ m3 _ (Ty.at_more Hm3.out mC) Wm3.out).mono ?_); rintro e w3 ⟨u3, v3, rfl, hb3, f3⟩; obtain ⟨r3a, r3n, r3c, r3d, r3m, r3e, e9⟩ := sh_Rat (Ty.fresh_at f3); simp only [List.cons.injEq, and_true, true_and] at e9; obtain ⟨e8, e9⟩ := e9; subst e8; subst e9; have F3 := Lib.hid f3; clear f3; have HX3 := More.trans HX (show More _ w3 from mC); have HB3 := HB _ HX3; have hz3 := More.size HX3; (try simp at hz3); have hb3 := hb3) | (go_at_call 44; (with_reducible refine (spec_l04CopyR _ m5 _ (Ty.at_more Hm5.out mC) Wm5.out).mono ?_); rintro e w4 ⟨u4, v4, rfl, hb4, f4⟩; obtain ⟨r4a, r4n, r4c, r4d, r4m, r4e, e9⟩ := sh_Rat (Ty.fresh_at f4); simp only [List.cons.injEq, and_true, true_and] at e9; obtain ⟨e8, e9⟩ := e9; subst e8; subst e9; have F4 := Lib.hid f4; clear f4; have HX4 := More.trans HX (show More _ w4 from mC); have HB4 := HB _ HX4; have hz4 := More.size HX4; (try simp at hz4); have hb4 := hb4))
    all_goals
      go_wp2_with fail
      refine bodyPost_ret (v := .tuple #[.agg #[.bool m3.1.1, .slice r3a r3n r3c, .slice r3d r3m r3e], .agg #[.bool m5.1.1, .slice r4a r4n r4c, .slice r4d r4m r4e], .bool true]) ?_ rfl ?_
      · simp [results, Try.results18, go_sem, *]
      · exact ⟨_, _, _, _, rfl, mC2, Ty.fresh_mono (pair_fr (bs := [w.heap.size + 1 + 1, w.heap.size + 1 + 1 + 1]) (B := ((((w.alloc (.cells #[.bool m1.1.1, .slice m1a m1n m1c, .slice m1d m1m m1e, .bool m2.1.1, .slice m2a m2n m2c, .slice m2d m2m m2e, .bool m3.1.1, .slice m3a m3n m3c, .slice m3d m3m m3e, .bool m4.1.1, .slice m4a m4n m4c, .slice m4d m4m m4e, .bool m5.1.1, .slice m5a m5n m5c, .slice m5d m5m m5e, .bool m6.1.1, .slice m6a m6n m6c, .slice m6d m6m m6e] 59)).alloc (.cells #[.bool p.1.1, .slice pa pn pc, .slice pd pm pe] 55)).alloc (.cells #[.bool false, .slice none 0 0, .slice none 0 0] 55)).alloc (.cells #[.bool false, .slice none 0 0, .slice none 0 0] 55)).heap.size) (c1 := [.bool m3.1.1, .slice r3a r3n r3c, .slice r3d r3m r3e]) (Ty.fresh_mono F3.out (by have h7 := hz3; have h8 := hz4; have h1 := hb3.size; have h2 := hb4.size; (try simp at h7 h8 h1 h2); simp <;> omega)) (Ty.fresh_mono F4.out (by have h7 := hz3; have h8 := hz4; have h1 := hb3.size; have h2 := hb4.size; (try simp at h7 h8 h1 h2); simp <;> omega)) tC tC (by simp <;> omega) (by have h7 := hz3; have h8 := hz4; have h1 := hb3.size; have h2 := hb4.size; (try simp at h7 h8 h1 h2); simp <;> omega)) (by simp; try omega)⟩
  rcases Bool.eq_false_or_eq_true (decide (p = m2)) with h2 | h2
  · have hq : (m4, m6, true) = (lo, hi, ok) := by rw [← hr]; unfold csF; dsimp only; rw [h1, h2]; rfl
    have E1 := Lib.hid h1; have E2 := Lib.hid h2; clear h1 h2 hr
    cases hq
    have HX := More.refl ((((w.alloc (.cells #[.bool m1.1.1, .slice m1a m1n m1c, .slice m1d m1m m1e, .bool m2.1.1, .slice m2a m2n m2c, .slice m2d m2m m2e, .bool m3.1.1, .slice m3a m3n m3c, .slice m3d m3m m3e, .bool m4.1.1, .slice m4a m4n m4c, .slice m4d m4m m4e, .bool m5.1.1, .slice m5a m5n m5c, .slice m5d m5m m5e, .bool m6.1.1, .slice m6a m6n m6c, .slice m6d m6m m6e] 59)).alloc (.cells #[.bool p.1.1, .slice pa pn pc, .slice pd pm pe] 55)).alloc (.cells #[.bool false, .slice none 0 0, .slice none 0 0] 55)).alloc (.cells #[.bool false, .slice none 0 0, .slice none 0 0] 55))
    have HC := fun (w' : World) (h : Turns [w.heap.size + 1 + 1, w.heap.size + 1 + 1 + 1] ((((w.alloc (.cells #[.bool m1.1.1, .slice m1a m1n m1c, .slice m1d m1m m1e, .bool m2.1.1, .slice m2a m2n m2c, .slice m2d m2m m2e, .bool m3.1.1, .slice m3a m3n m3c, .slice m3d m3m m3e, .bool m4.1.1, .slice m4a m4n m4c, .slice m4d m4m m4e, .bool m5.1.1, .slice m5a m5n m5c, .slice m5d m5m m5e, .bool m6.1.1, .slice m6a m6n m6c, .slice m6d m6m m6e] 59)).alloc (.cells #[.bool p.1.1, .slice pa pn pc, .slice pd pm pe] 55)).alloc (.cells #[.bool false, .slice none 0 0, .slice none 0 0] 55)).alloc (.cells #[.bool false, .slice none 0 0, .slice none 0 0] 55)) w') => And.intro (bt18 (w.heap.size) (by simp) (More.un (More.un (More.un (More.refl _)))) h (by simp <;> omega) (by simp <;> omega)) (bt3 (w.heap.size + 1) (by simp) (More.un (More.un (More.refl _))) h (by simp <;> omega) (by simp <;> omega))
    have HB := fun (w' : World) (h : More ((((w.alloc (.cells #[.bool m1.1.1, .slice m1a m1n m1c, .slice m1d m1m m1e, .bool m2.1.1, .slice m2a m2n m2c, .slice m2d m2m m2e, .bool m3.1.1, .slice m3a m3n m3c, .slice m3d m3m m3e, .bool m4.1.1, .slice m4a m4n m4c, .slice m4d m4m m4e, .bool m5.1.1, .slice m5a m5n m5c, .slice m5d m5m m5e, .bool m6.1.1, .slice m6a m6n m6c, .slice m6d m6m m6e] 59)).alloc (.cells #[.bool p.1.1, .slice pa pn pc, .slice pd pm pe] 55)).alloc (.cells #[.bool false, .slice none 0 0, .slice none 0 0] 55)).alloc (.cells #[.bool false, .slice none 0 0, .slice none 0 0] 55)) w') => And.intro (bx18 (w.heap.size) (by simp) (More.un (More.un (More.un h)))) (And.intro (bx3 (w.heap.size + 1) (by simp) (More.un (More.un h))) (And.intro (bx3 (w.heap.size + 1 + 1) (by simp) (More.un h)) (bx3 (w.heap.size + 1 + 1 + 1) (by simp) h)))
    go_enter Try.func18, Try.ntmps18
    go_wp2_with (first | (go_at_call 43; (with_reducible refine (spec_RatEqual _ _ p m1 _ (Ty.at_more Hp.out mC) (Ty.at_more Hm1.out mC) Wp.out Wm1.out).mono ?_); rintro e w1 ⟨rfl, hb1⟩; have HX1 := More.trans HX (show More _ w1 from mC); have HB1 := HB _ HX1; have hz1 := More.size HX1; (try simp at hz1); have hb1 := hb1; rw [E1.out]) | (go_at_call 43; (with_reducible refine (spec_RatEqual _ _ p m2 _ (Ty.at_more Hp.out mC) (Ty.at_more Hm2.out mC) Wp.out Wm2.out).mono ?_); rintro e w2 ⟨rfl, hb2⟩; have HX2 := More.trans HX (show More _ w2 from mC); have HB2 := HB _ HX2; have hz2 := More.size HX2; (try simp at hz2); have hb2 := hb2; rw [E2.out]))
    go_region_held3 (fun w' => Turns [w.heap.size + 1 + 1, w.heap.size + 1 + 1 + 1] ((((w.alloc (.cells #[.bool m1.1.1, .slice m1a m1n m1c, .slice m1d m1m m1e, .bool m2.1.1, .slice m2a m2n m2c, .slice m2d m2m m2e, .bool m3.1.1, .slice m3a m3n m3c, .slice m3d m3m m3e, .bool m4.1.1, .slice m4a m4n m4c, .slice m4d m4m m4e, .bool m5.1.1, .slice m5a m5n m5c, .slice m5d m5m m5e, .bool m6.1.1, .slice m6a m6n m6c, .slice m6d m6m m6e] 59)).alloc (.cells #[.bool p.1.1, .slice pa pn pc, .slice pd pm pe] 55)).alloc (.cells #[.bool false, .slice none 0 0, .slice none 0 0] 55)).alloc (.cells #[.bool false, .slice none 0 0, .slice none 0 0] 55)) w') (first | exact tC | exact mC2) (first | (go_at_call 44; (with_reducible refine (spec_l04CopyR _ m4 _ (Ty.at_more Hm4.out mC) Wm4.out).mono ?_); rintro e w3 ⟨u3, v3, rfl, hb3, f3⟩; obtain ⟨r3a, r3n, r3c, r3d, r3m, r3e, e9⟩ := sh_Rat (Ty.fresh_at f3); simp only [List.cons.injEq, and_true, true_and] at e9; obtain ⟨e8, e9⟩ := e9; subst e8; subst e9; have F3 := Lib.hid f3; clear f3; have HX3 := More.trans HX (show More _ w3 from mC); have HB3 := HB _ HX3; have hz3 := More.size HX3; (try simp at hz3); have hb3 := hb3) | (go_at_call 44; (with_reducible refine (spec_l04CopyR _ m6 _ (Ty.at_more Hm6.out mC) Wm6.out).mono ?_); rintro e w4 ⟨u4, v4, rfl, hb4, f4⟩; obtain ⟨r4a, r4n, r4c, r4d, r4m, r4e, e9⟩ := sh_Rat (Ty.fresh_at f4); simp only [List.cons.injEq, and_true, true_and] at e9; obtain ⟨e8, e9⟩ := e9; subst e8; subst e9; have F4 := Lib.hid f4; clear f4; have HX4 := More.trans HX (show More _ w4 from mC); have HB4 := HB _ HX4; have hz4 := More.size HX4; (try simp at hz4); have hb4 := hb4))
    all_goals
      go_wp2_with fail
      refine bodyPost_ret (v := .tuple #[.agg #[.bool m4.1.1, .slice r3a r3n r3c, .slice r3d r3m r3e], .agg #[.bool m6.1.1, .slice r4a r4n r4c, .slice r4d r4m r4e], .bool true]) ?_ rfl ?_
      · simp [results, Try.results18, go_sem, *]
      · exact ⟨_, _, _, _, rfl, mC2, Ty.fresh_mono (pair_fr (bs := [w.heap.size + 1 + 1, w.heap.size + 1 + 1 + 1]) (B := ((((w.alloc (.cells #[.bool m1.1.1, .slice m1a m1n m1c, .slice m1d m1m m1e, .bool m2.1.1, .slice m2a m2n m2c, .slice m2d m2m m2e, .bool m3.1.1, .slice m3a m3n m3c, .slice m3d m3m m3e, .bool m4.1.1, .slice m4a m4n m4c, .slice m4d m4m m4e, .bool m5.1.1, .slice m5a m5n m5c, .slice m5d m5m m5e, .bool m6.1.1, .slice m6a m6n m6c, .slice m6d m6m m6e] 59)).alloc (.cells #[.bool p.1.1, .slice pa pn pc, .slice pd pm pe] 55)).alloc (.cells #[.bool false, .slice none 0 0, .slice none 0 0] 55)).alloc (.cells #[.bool false, .slice none 0 0, .slice none 0 0] 55)).heap.size) (c1 := [.bool m4.1.1, .slice r3a r3n r3c, .slice r3d r3m r3e]) (Ty.fresh_mono F3.out (by have h7 := hz3; have h8 := hz4; have h1 := hb3.size; have h2 := hb4.size; (try simp at h7 h8 h1 h2); simp <;> omega)) (Ty.fresh_mono F4.out (by have h7 := hz3; have h8 := hz4; have h1 := hb3.size; have h2 := hb4.size; (try simp at h7 h8 h1 h2); simp <;> omega)) tC tC (by simp <;> omega) (by have h7 := hz3; have h8 := hz4; have h1 := hb3.size; have h2 := hb4.size; (try simp at h7 h8 h1 h2); simp <;> omega)) (by simp; try omega)⟩
  have hq : ((((false, []), []) : QR), (((false, []), []) : QR), false) = (lo, hi, ok) := by rw [← hr]; unfold csF; dsimp only; rw [h1, h2]; rfl
  have E1 := Lib.hid h1; have E2 := Lib.hid h2; clear h1 h2 hr
  cases hq
  have HX := More.refl ((((w.alloc (.cells #[.bool m1.1.1, .slice m1a m1n m1c, .slice m1d m1m m1e, .bool m2.1.1, .slice m2a m2n m2c, .slice m2d m2m m2e, .bool m3.1.1, .slice m3a m3n m3c, .slice m3d m3m m3e, .bool m4.1.1, .slice m4a m4n m4c, .slice m4d m4m m4e, .bool m5.1.1, .slice m5a m5n m5c, .slice m5d m5m m5e, .bool m6.1.1, .slice m6a m6n m6c, .slice m6d m6m m6e] 59)).alloc (.cells #[.bool p.1.1, .slice pa pn pc, .slice pd pm pe] 55)).alloc (.cells #[.bool false, .slice none 0 0, .slice none 0 0] 55)).alloc (.cells #[.bool false, .slice none 0 0, .slice none 0 0] 55))
  have HC := fun (w' : World) (h : Turns [w.heap.size + 1 + 1, w.heap.size + 1 + 1 + 1] ((((w.alloc (.cells #[.bool m1.1.1, .slice m1a m1n m1c, .slice m1d m1m m1e, .bool m2.1.1, .slice m2a m2n m2c, .slice m2d m2m m2e, .bool m3.1.1, .slice m3a m3n m3c, .slice m3d m3m m3e, .bool m4.1.1, .slice m4a m4n m4c, .slice m4d m4m m4e, .bool m5.1.1, .slice m5a m5n m5c, .slice m5d m5m m5e, .bool m6.1.1, .slice m6a m6n m6c, .slice m6d m6m m6e] 59)).alloc (.cells #[.bool p.1.1, .slice pa pn pc, .slice pd pm pe] 55)).alloc (.cells #[.bool false, .slice none 0 0, .slice none 0 0] 55)).alloc (.cells #[.bool false, .slice none 0 0, .slice none 0 0] 55)) w') => And.intro (bt18 (w.heap.size) (by simp) (More.un (More.un (More.un (More.refl _)))) h (by simp <;> omega) (by simp <;> omega)) (bt3 (w.heap.size + 1) (by simp) (More.un (More.un (More.refl _))) h (by simp <;> omega) (by simp <;> omega))
  have HB := fun (w' : World) (h : More ((((w.alloc (.cells #[.bool m1.1.1, .slice m1a m1n m1c, .slice m1d m1m m1e, .bool m2.1.1, .slice m2a m2n m2c, .slice m2d m2m m2e, .bool m3.1.1, .slice m3a m3n m3c, .slice m3d m3m m3e, .bool m4.1.1, .slice m4a m4n m4c, .slice m4d m4m m4e, .bool m5.1.1, .slice m5a m5n m5c, .slice m5d m5m m5e, .bool m6.1.1, .slice m6a m6n m6c, .slice m6d m6m m6e] 59)).alloc (.cells #[.bool p.1.1, .slice pa pn pc, .slice pd pm pe] 55)).alloc (.cells #[.bool false, .slice none 0 0, .slice none 0 0] 55)).alloc (.cells #[.bool false, .slice none 0 0, .slice none 0 0] 55)) w') => And.intro (bx18 (w.heap.size) (by simp) (More.un (More.un (More.un h)))) (And.intro (bx3 (w.heap.size + 1) (by simp) (More.un (More.un h))) (And.intro (bx3 (w.heap.size + 1 + 1) (by simp) (More.un h)) (bx3 (w.heap.size + 1 + 1 + 1) (by simp) h)))
  go_enter Try.func18, Try.ntmps18
  go_wp2_with (first | (go_at_call 43; (with_reducible refine (spec_RatEqual _ _ p m1 _ (Ty.at_more Hp.out mC) (Ty.at_more Hm1.out mC) Wp.out Wm1.out).mono ?_); rintro e w1 ⟨rfl, hb1⟩; have HX1 := More.trans HX (show More _ w1 from mC); have HB1 := HB _ HX1; have hz1 := More.size HX1; (try simp at hz1); have hb1 := hb1; rw [E1.out]) | (go_at_call 43; (with_reducible refine (spec_RatEqual _ _ p m2 _ (Ty.at_more Hp.out mC) (Ty.at_more Hm2.out mC) Wp.out Wm2.out).mono ?_); rintro e w2 ⟨rfl, hb2⟩; have HX2 := More.trans HX (show More _ w2 from mC); have HB2 := HB _ HX2; have hz2 := More.size HX2; (try simp at hz2); have hb2 := hb2; rw [E2.out]))
  refine bodyPost_ret (v := .tuple #[.agg #[.bool false, .slice none 0 0, .slice none 0 0], .agg #[.bool false, .slice none 0 0, .slice none 0 0], .bool false]) ?_ rfl ?_
  · simp [results, Try.results18, go_sem, *]
  · exact ⟨_, _, _, _, rfl, mC2, zero2_fr (More.size mC2)⟩
end Go.Proofs.Ytnndjbomfcacfaa
