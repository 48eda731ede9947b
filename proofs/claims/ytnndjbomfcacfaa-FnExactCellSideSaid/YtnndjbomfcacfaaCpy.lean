/- Copies of fractions, valid or not. -/
import Derived.Test.YtnndjbomfcacfaaThn
import Derived.Test.YtnndjbomfcacfaaGSra
import Derived.Test.YtnndjbomfcacfaaClo
import Derived.Test.YtnndjbomfcacfaaGInt
namespace Go.Proofs.Ytnndjbomfcacfaa
open Go.RowKit
set_option maxRecDepth 8000 in
set_option maxHeartbeats 12800000 in
theorem impl_ownRat (cs1 : List Value) (p : QR) (w : World) (hv1 : tRat.at w cs1 p) (hw1 : wRat p ≤ 1048576) :
    Calls Try.prog 48 #[.agg cs1.toArray] w fun e w' => ∃ u v, e = .returned (.agg #[.bool p.1.1, u, v]) ∧ More w w' ∧ tRat.fresh w.heap.size w' [.bool p.1.1, u, v] p := by
  obtain ⟨pa, pn, pc, pd, pm, pe, rfl⟩ := sh_Rat hv1
  have Hp := Lib.hid hv1; have Wp := Lib.hid hw1
  have HV1 : Hid (tRat.at w [.bool p.1.1, .slice pa pn pc, .slice pd pm pe] p) := Lib.hid hv1; have HW1 := Lib.hid hw1; clear hv1 hw1
  obtain ⟨_, f1, f2⟩ := rat_split Hp.out
  have Hp1 := Lib.hid f1; have Hp2 := Lib.hid f2; clear f1 f2
  have Lp1 : Hid (p.1.2.length ≤ 1048576) := Lib.hid (by have h := Wp.out; unfold wRat wBigInt wIntS at h; omega)
  have Lp2 : Hid (p.2.length ≤ 1048576) := Lib.hid (by have h := Wp.out; unfold wRat wBigInt wIntS at h; omega)
  show Calls Try.prog 48 #[.agg #[.bool p.1.1, .slice pa pn pc, .slice pd pm pe]] w _
  have HX := More.refl ((w.alloc (.cells #[.bool p.1.1, .slice pa pn pc, .slice pd pm pe] 55)).alloc (.cells #[.bool false, .slice none 0 0, .slice none 0 0] 55))
  have HC := fun (w' : World) (h : Turns [w.heap.size + 1] ((w.alloc (.cells #[.bool p.1.1, .slice pa pn pc, .slice pd pm pe] 55)).alloc (.cells #[.bool false, .slice none 0 0, .slice none 0 0] 55)) w') => bt3 (w.heap.size) (by simp) (More.un (More.refl _)) h (by simp <;> omega) (by simp <;> omega)
  have HB := fun (w' : World) (h : More ((w.alloc (.cells #[.bool p.1.1, .slice pa pn pc, .slice pd pm pe] 55)).alloc (.cells #[.bool false, .slice none 0 0, .slice none 0 0] 55)) w') => And.intro (bx3 (w.heap.size) (by simp) (More.un h)) (bx3 (w.heap.size + 1) (by simp) h)
  go_enter Try.func48, Try.ntmps48
  go_wp2_with fail
  go_region_held3 (fun w' => Turns [w.heap.size + 1] ((w.alloc (.cells #[.bool p.1.1, .slice pa pn pc, .slice pd pm pe] 55)).alloc (.cells #[.bool false, .slice none 0 0, .slice none 0 0] 55)) w') (first | exact tC | exact mC2) (first | (go_at_call 66; (with_reducible refine (clone_ints (.slice pa pn pc) p.1.2 _ (Ty.at_more Hp1.out mC) Lp1.out).mono ?_); rintro e w3 ⟨v3, rfl, hb3, f3⟩; obtain ⟨x3a, x3n, x3c, rfl⟩ := sh1 (Ty.fresh_at f3); have F3 := Lib.hid f3; clear f3; have HX3 := More.trans HX (show More _ w3 from mC); have HB3 := HB _ HX3; have hz3 := More.size HX3; (try simp at hz3); have hb3 := hb3) | (go_at_call 66; (with_reducible refine (clone_ints (.slice pd pm pe) p.2 _ (Ty.at_more Hp2.out mC) Lp2.out).mono ?_); rintro e w4 ⟨v4, rfl, hb4, f4⟩; obtain ⟨x4a, x4n, x4c, rfl⟩ := sh1 (Ty.fresh_at f4); have F4 := Lib.hid f4; clear f4; have HX4 := More.trans HX (show More _ w4 from mC); have HB4 := HB _ HX4; have hz4 := More.size HX4; (try simp at hz4); have hb4 := hb4))
  all_goals
    go_wp2_with fail
    refine bodyPost_ret (v := .agg #[.bool p.1.1, .slice x3a x3n x3c, .slice x4a x4n x4c]) ?_ rfl ?_
    rotate_left
    · exact ⟨_, _, rfl, mC2, by first | exact Ty.fresh_mono (rat_fA (bs := [w.heap.size + 1]) (B := ((w.alloc (.cells #[.bool p.1.1, .slice pa pn pc, .slice pd pm pe] 55)).alloc (.cells #[.bool false, .slice none 0 0, .slice none 0 0] 55)).heap.size) (Ty.fresh_mono F3.out (by have h7 := hz3; have h8 := hz4; have h1 := hb3.size; have h2 := hb4.size; (try simp at h7 h8 h1 h2); simp <;> omega)) (Ty.fresh_mono F4.out (by have h7 := hz3; have h8 := hz4; have h1 := hb3.size; have h2 := hb4.size; (try simp at h7 h8 h1 h2); simp <;> omega)) tC tC (by simp) (by have h7 := hz3; have h8 := hz4; have h1 := hb3.size; have h2 := hb4.size; (try simp at h7 h8 h1 h2); simp <;> omega)) (by simp; try omega) | exact Ty.fresh_mono (rat_fB (bs := [w.heap.size + 1]) (B := ((w.alloc (.cells #[.bool p.1.1, .slice pa pn pc, .slice pd pm pe] 55)).alloc (.cells #[.bool false, .slice none 0 0, .slice none 0 0] 55)).heap.size) (Ty.fresh_mono F4.out (by have h7 := hz3; have h8 := hz4; have h1 := hb3.size; have h2 := hb4.size; (try simp at h7 h8 h1 h2); simp <;> omega)) (Ty.fresh_mono F3.out (by have h7 := hz3; have h8 := hz4; have h1 := hb3.size; have h2 := hb4.size; (try simp at h7 h8 h1 h2); simp <;> omega)) tC tC (by simp) (by have h7 := hz3; have h8 := hz4; have h1 := hb3.size; have h2 := hb4.size; (try simp at h7 h8 h1 h2); simp <;> omega)) (by simp; try omega)⟩
    · simp [results, Try.results48, go_sem, *]
set_option maxRecDepth 8000 in
set_option maxHeartbeats 12800000 in
theorem spec_l04CopyR (cs1 : List Value) (p : QR) (w : World) (hv1 : tRat.at w cs1 p) (hw1 : wRat p ≤ 1048576) :
    Calls Try.prog 44 #[.agg cs1.toArray] w fun e w' => ∃ u v, e = .returned (.agg #[.bool p.1.1, u, v]) ∧ More w w' ∧ tRat.fresh w.heap.size w' [.bool p.1.1, u, v] p := by
  obtain ⟨i0, hi, iz0, iz1, iz2⟩ := info_parts infoInt_
  obtain ⟨pa, pn, pc, pd, pm, pe, rfl⟩ := sh_Rat hv1
  have Hp := Lib.hid hv1; have Wp := Lib.hid hw1
  have HV1 : Hid (tRat.at w [.bool p.1.1, .slice pa pn pc, .slice pd pm pe] p) := Lib.hid hv1; have HW1 := Lib.hid hw1; clear hv1 hw1
  obtain ⟨_, f1, f2⟩ := rat_split Hp.out
  have Hp1 := Lib.hid f1; have Hp2 := Lib.hid f2; clear f1 f2
  have Lp1 : Hid (p.1.2.length ≤ 1048576) := Lib.hid (by have h := Wp.out; unfold wRat wBigInt wIntS at h; omega)
  have Lp2 : Hid (p.2.length ≤ 1048576) := Lib.hid (by have h := Wp.out; unfold wRat wBigInt wIntS at h; omega)
  show Calls Try.prog 44 #[.agg #[.bool p.1.1, .slice pa pn pc, .slice pd pm pe]] w _
  have HX := More.refl ((w.alloc (.cells #[.bool p.1.1, .slice pa pn pc, .slice pd pm pe] 55)).alloc (.cells #[.bool false, .slice none 0 0, .slice none 0 0] 55))
  have HC := fun (w' : World) (h : Turns [w.heap.size + 1] ((w.alloc (.cells #[.bool p.1.1, .slice pa pn pc, .slice pd pm pe] 55)).alloc (.cells #[.bool false, .slice none 0 0, .slice none 0 0] 55)) w') => bt3 (w.heap.size) (by simp) (More.un (More.refl _)) h (by simp <;> omega) (by simp <;> omega)
  have HB := fun (w' : World) (h : More ((w.alloc (.cells #[.bool p.1.1, .slice pa pn pc, .slice pd pm pe] 55)).alloc (.cells #[.bool false, .slice none 0 0, .slice none 0 0] 55)) w') => And.intro (bx3 (w.heap.size) (by simp) (More.un h)) (bx3 (w.heap.size + 1) (by simp) h)
  go_enter Try.func44, Try.ntmps44
  go_wp2_with fail
  go_region_held3 (fun w' => Turns [w.heap.size + 1] ((w.alloc (.cells #[.bool p.1.1, .slice pa pn pc, .slice pd pm pe] 55)).alloc (.cells #[.bool false, .slice none 0 0, .slice none 0 0] 55)) w') (first | exact tC | exact mC2) (first | (refine step_copyAll fInt rfl _ _ 44 rfl 3 i0 (.int .i64 0) 8 Try.underlying44 hi iz0 iz1 iz2 rfl (by decide) rfl (u := (.slice pa pn pc)) rfl (Ty.at_more Hp1.out mC) (Lib.hid (by have := Lp1.out; omega)) (by decide) ?_; intro v3 w3 f3 hb3; obtain ⟨x3a, x3n, x3c, rfl⟩ := sh1 (Ty.fresh_at f3); have F3 := Lib.hid f3; clear f3; have HX3 := More.trans HX (show More _ w3 from mC); have HB3 := HB _ HX3; have hz3 := More.size HX3; (try simp at hz3); have hb3 := hb3) | (refine step_copyAll fInt rfl _ _ 44 rfl 3 i0 (.int .i64 0) 8 Try.underlying44 hi iz0 iz1 iz2 rfl (by decide) rfl (u := (.slice pd pm pe)) rfl (Ty.at_more Hp2.out mC) (Lib.hid (by have := Lp2.out; omega)) (by decide) ?_; intro v4 w4 f4 hb4; obtain ⟨x4a, x4n, x4c, rfl⟩ := sh1 (Ty.fresh_at f4); have F4 := Lib.hid f4; clear f4; have HX4 := More.trans HX (show More _ w4 from mC); have HB4 := HB _ HX4; have hz4 := More.size HX4; (try simp at hz4); have hb4 := hb4))
  all_goals
    go_wp2_with fail
    refine bodyPost_ret (v := .agg #[.bool p.1.1, .slice x3a x3n x3c, .slice x4a x4n x4c]) ?_ rfl ?_
    rotate_left
    · exact ⟨_, _, rfl, mC2, by first | exact Ty.fresh_mono (rat_fA (bs := [w.heap.size + 1]) (B := ((w.alloc (.cells #[.bool p.1.1, .slice pa pn pc, .slice pd pm pe] 55)).alloc (.cells #[.bool false, .slice none 0 0, .slice none 0 0] 55)).heap.size) (Ty.fresh_mono F3.out (by have h7 := hz3; have h8 := hz4; have h1 := hb3.size; have h2 := hb4.size; (try simp at h7 h8 h1 h2); simp <;> omega)) (Ty.fresh_mono F4.out (by have h7 := hz3; have h8 := hz4; have h1 := hb3.size; have h2 := hb4.size; (try simp at h7 h8 h1 h2); simp <;> omega)) tC tC (by simp) (by have h7 := hz3; have h8 := hz4; have h1 := hb3.size; have h2 := hb4.size; (try simp at h7 h8 h1 h2); simp <;> omega)) (by simp; try omega) | exact Ty.fresh_mono (rat_fB (bs := [w.heap.size + 1]) (B := ((w.alloc (.cells #[.bool p.1.1, .slice pa pn pc, .slice pd pm pe] 55)).alloc (.cells #[.bool false, .slice none 0 0, .slice none 0 0] 55)).heap.size) (Ty.fresh_mono F4.out (by have h7 := hz3; have h8 := hz4; have h1 := hb3.size; have h2 := hb4.size; (try simp at h7 h8 h1 h2); simp <;> omega)) (Ty.fresh_mono F3.out (by have h7 := hz3; have h8 := hz4; have h1 := hb3.size; have h2 := hb4.size; (try simp at h7 h8 h1 h2); simp <;> omega)) tC tC (by simp) (by have h7 := hz3; have h8 := hz4; have h1 := hb3.size; have h2 := hb4.size; (try simp at h7 h8 h1 h2); simp <;> omega)) (by simp; try omega)⟩
    · simp [results, Try.results44, go_sem, *]
end Go.Proofs.Ytnndjbomfcacfaa
