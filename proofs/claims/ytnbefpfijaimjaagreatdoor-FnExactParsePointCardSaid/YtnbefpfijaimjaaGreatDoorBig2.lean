/- Whole numbers: comparing; the reference's making, sums. -/
import Derived.Test.YtnbefpfijaimjaaGreatDoorBig
namespace Go.Proofs.YtnbefpfijaimjaaGreatDoor
open Go.RowKit
theorem sgn_cmp (s s' : Bool) (m m' : Nat) : cmpI (sgn s m) (sgn s' m') = if s then (if s' then cmpI (m' : Int) (m : Int) else if m = 0 ∧ m' = 0 then 0 else -1) else (if s' then (if m = 0 ∧ m' = 0 then 0 else 1) else cmpI (m : Int) (m' : Int)) := by
  unfold sgn cmpI
  cases s <;> cases s' <;> simp <;> (try split) <;> (try split) <;> omega
theorem spec_l02Cap (v : Value) (m : Nat) (w : World) (hv : tInts.at w [v] (limbs m)) (hl : (limbs m).length ≤ 60) :
    Calls Tryz.prog 161 #[v] w fun e w' => ∃ u, e = .returned u ∧ More w w' ∧ tInts.at w' [u] (limbs m) := by
  have HV := Lib.hid hv; have HL := Lib.hid hl; clear hv hl
  go_enter Tryz.func161, Tryz.ntmps161
  go_wp2_with (go_at_call 79; refine (spec_l02Trim _ (limbs m) m _ (Ty.at_more HV.out mC) (by have := HL.out; omega) (limbs_isL m) (limbs_val m)).mono ?_; rintro e w1 ⟨u, rfl, hb1, g1⟩; obtain ⟨ua, uc, rfl⟩ := sl_len g1; have G1 := Lib.hid g1; clear g1; have hle : ¬ (60 : Int) < ((limbs m).length : Int) := (by have := HL.out; omega); generalize (limbs m).length = nn at *)
  go_ret
  exact ⟨_, rfl, mC, Ty.at_more G1.out mC⟩
set_option maxRecDepth 4000 in
set_option maxHeartbeats 3200000 in
theorem spec_l03Make (s : Bool) (v : Value) (m : Nat) (w : World) (hv : tInts.at w [v] (limbs m)) (hl : (limbs m).length ≤ 60) :
    Calls Tryz.prog 128 #[.bool s, v] w fun e w' => ∃ u, e = .returned (.agg #[.bool (decide (sgn s m < 0)), u]) ∧ More w w' ∧ tInts.fresh w.heap.size w' [u] (limbs m) := by
  have HV := Lib.hid hv; have HL := Lib.hid hl; clear hv hl
  obtain ⟨i0, hi, iz0, iz1, iz2⟩ := info_parts infoInt_
  have HS0 : Hid (decide (sgn s 0 < 0) = false) := Lib.hid (sgn_nil s)
  have HS1 : Hid (0 < (limbs m).length → decide (sgn s m < 0) = s) := Lib.hid (fun h => sgn_pos h)
  obtain ⟨n, hn⟩ : ∃ n, n = (limbs m).length := ⟨_, rfl⟩
  have HN := Lib.hid hn; clear hn
  by_cases h : 0 < n
  · have h' : (0 : Int) < (n : Int) := by omega
    have HSS : Hid (decide (sgn s m < 0) = s) := Lib.hid (HS1.out (by rw [← HN.out]; exact h))
    rw [HSS.out]
    cases s
    · skip
      have HX : More (w.alloc (.cells #[.bool false, .slice none 0 0] 24)) (w.alloc (.cells #[.bool false, .slice none 0 0] 24)) := More.refl _
      have HB : ∀ w', More (w.alloc (.cells #[.bool false, .slice none 0 0] 24)) w' → w'.cell? ⟨w.heap.size, 0, none⟩ = some (.bool false) ∧ w'.cell? ⟨w.heap.size, 1, none⟩ = some (.slice none 0 0) ∧ (∀ j, w'.frozen? ⟨w.heap.size, j, none⟩ = false) := fun w' h => ⟨box_new (by simp) h 0, box_new (by simp) h 1, fun j => box_free (by simp) h j⟩
      go_enter Tryz.func128, Tryz.ntmps128
      go_wp2_with (first | (go_at_call 161; refine (spec_l02Cap _ m _ (Ty.at_more HV.out mC) HL.out).mono ?_; rintro e w1 ⟨u, rfl, hb1, g1⟩; obtain ⟨ua, uc, e9⟩ := sl_len g1; rw [← HN.out] at e9; subst e9; have G1 := Lib.hid g1; clear g1; have HX1 : More (w.alloc (.cells #[.bool false, .slice none 0 0] 24)) w1 := mC; have HB1 := HB _ HX1; have hz1 := More.size HX1; (try simp at hz1); have hb1 := hb1; have hz9 : w.heap.size < w1.heap.size := (by have := HX1.size; simp at this; omega)) | (at_builtin; refine wpList_copyAll fInt rfl _ _ 22 rfl 3 i0 (.int .i64 0) 8 Tryz.underlying22 hi iz0 iz1 iz2 rfl (by decide) rfl rfl (Ty.at_more G1.out mC) (Lib.hid (by have := HL.out; omega)) (by decide) ?_))
      intro v2 w2 f2 hb2
      obtain ⟨va, vn, vc, rfl⟩ := sh1 (Ty.fresh_at f2)
      have F2 := Lib.hid f2; clear f2
      have HX2 : More (w.alloc (.cells #[.bool false, .slice none 0 0] 24)) w2 := mC; have HB2 := HB _ HX2; have hz2 := More.size HX2; (try simp at hz2); have hb2 := hb2
      go_wp2_with fail
      refine bodyPost_ret (v := .agg #[.bool false, .slice va vn vc]) ?_ rfl ?_
      rotate_left
      · exact ⟨_, rfl, mC2, Ty.fresh_mono (Ty.fresh_turns (bs := [w.heap.size]) F2.out tC (by simp; omega)) (by omega)⟩
      · simp [results, Tryz.results128, go_sem, *]
    · skip
      have HX : More (w.alloc (.cells #[.bool false, .slice none 0 0] 24)) (w.alloc (.cells #[.bool false, .slice none 0 0] 24)) := More.refl _
      have HB : ∀ w', More (w.alloc (.cells #[.bool false, .slice none 0 0] 24)) w' → w'.cell? ⟨w.heap.size, 0, none⟩ = some (.bool false) ∧ w'.cell? ⟨w.heap.size, 1, none⟩ = some (.slice none 0 0) ∧ (∀ j, w'.frozen? ⟨w.heap.size, j, none⟩ = false) := fun w' h => ⟨box_new (by simp) h 0, box_new (by simp) h 1, fun j => box_free (by simp) h j⟩
      go_enter Tryz.func128, Tryz.ntmps128
      go_wp2_with (first | (go_at_call 161; refine (spec_l02Cap _ m _ (Ty.at_more HV.out mC) HL.out).mono ?_; rintro e w1 ⟨u, rfl, hb1, g1⟩; obtain ⟨ua, uc, e9⟩ := sl_len g1; rw [← HN.out] at e9; subst e9; have G1 := Lib.hid g1; clear g1; have HX1 : More (w.alloc (.cells #[.bool false, .slice none 0 0] 24)) w1 := mC; have HB1 := HB _ HX1; have hz1 := More.size HX1; (try simp at hz1); have hb1 := hb1; have hz9 : w.heap.size < w1.heap.size := (by have := HX1.size; simp at this; omega)) | (at_builtin; refine wpList_copyAll fInt rfl _ _ 22 rfl 3 i0 (.int .i64 0) 8 Tryz.underlying22 hi iz0 iz1 iz2 rfl (by decide) rfl rfl (Ty.at_more G1.out mC) (Lib.hid (by have := HL.out; omega)) (by decide) ?_))
      intro v2 w2 f2 hb2
      obtain ⟨va, vn, vc, rfl⟩ := sh1 (Ty.fresh_at f2)
      have F2 := Lib.hid f2; clear f2
      have HX2 : More (w.alloc (.cells #[.bool false, .slice none 0 0] 24)) w2 := mC; have HB2 := HB _ HX2; have hz2 := More.size HX2; (try simp at hz2); have hb2 := hb2
      go_wp2_with fail
      refine bodyPost_ret (v := .agg #[.bool true, .slice va vn vc]) ?_ rfl ?_
      rotate_left
      · exact ⟨_, rfl, mC2, Ty.fresh_mono (Ty.fresh_turns (bs := [w.heap.size]) F2.out tC (by simp; omega)) (by omega)⟩
      · simp [results, Tryz.results128, go_sem, *]
  · have h0 : n = 0 := by omega
    subst h0
    have hm : m = 0 := limbs_nil.1 (List.eq_nil_of_length_eq_zero HN.out.symm)
    subst hm
    rw [HS0.out]
    cases s
    all_goals
      have HX : More (w.alloc (.cells #[.bool false, .slice none 0 0] 24)) (w.alloc (.cells #[.bool false, .slice none 0 0] 24)) := More.refl _
      have HB : ∀ w', More (w.alloc (.cells #[.bool false, .slice none 0 0] 24)) w' → w'.cell? ⟨w.heap.size, 0, none⟩ = some (.bool false) ∧ w'.cell? ⟨w.heap.size, 1, none⟩ = some (.slice none 0 0) ∧ (∀ j, w'.frozen? ⟨w.heap.size, j, none⟩ = false) := fun w' h => ⟨box_new (by simp) h 0, box_new (by simp) h 1, fun j => box_free (by simp) h j⟩
      go_enter Tryz.func128, Tryz.ntmps128
      go_wp2_with (first | (go_at_call 161; refine (spec_l02Cap _ 0 _ (Ty.at_more HV.out mC) HL.out).mono ?_; rintro e w1 ⟨u, rfl, hb1, g1⟩; obtain ⟨ua, uc, e9⟩ := sl_len g1; rw [← HN.out] at e9; subst e9; have G1 := Lib.hid g1; clear g1; have HX1 : More (w.alloc (.cells #[.bool false, .slice none 0 0] 24)) w1 := mC; have HB1 := HB _ HX1; have hz1 := More.size HX1; (try simp at hz1); have hb1 := hb1; have hz9 : w.heap.size < w1.heap.size := (by have := HX1.size; simp at this; omega)) | (at_builtin; refine wpList_copyAll fInt rfl _ _ 22 rfl 3 i0 (.int .i64 0) 8 Tryz.underlying22 hi iz0 iz1 iz2 rfl (by decide) rfl rfl (Ty.at_more G1.out mC) (Lib.hid (by have := HL.out; omega)) (by decide) ?_))
      intro v2 w2 f2 hb2
      obtain ⟨va, vn, vc, rfl⟩ := sh1 (Ty.fresh_at f2)
      have F2 := Lib.hid f2; clear f2
      have HX2 : More (w.alloc (.cells #[.bool false, .slice none 0 0] 24)) w2 := mC; have HB2 := HB _ HX2; have hz2 := More.size HX2; (try simp at hz2); have hb2 := hb2
      go_wp2_with fail
      refine bodyPost_ret (v := .agg #[.bool false, .slice va vn vc]) ?_ rfl ?_
      rotate_left
      · exact ⟨_, rfl, mC2, Ty.fresh_mono (Ty.fresh_turns (bs := [w.heap.size]) F2.out tC (by simp; omega)) (by omega)⟩
      · simp [results, Tryz.results128, go_sem, *]
end Go.Proofs.YtnbefpfijaimjaaGreatDoor
