/- Whole numbers: comparing; the reference's making, sums. -/
import Derived.Test.YtnbefpfijaimjaaBig
namespace Go.Proofs.Ytnbefpfijaimjaa
open Go.RowKit
theorem sgn_cmp (s s' : Bool) (m m' : Nat) : cmpI (sgn s m) (sgn s' m') = if s then (if s' then cmpI (m' : Int) (m : Int) else if m = 0 ∧ m' = 0 then 0 else -1) else (if s' then (if m = 0 ∧ m' = 0 then 0 else 1) else cmpI (m : Int) (m' : Int)) := by
  unfold sgn cmpI
  cases s <;> cases s' <;> simp <;> (try split) <;> (try split) <;> omega
set_option linter.unusedSimpArgs false in
set_option maxHeartbeats 3200000 in
theorem impl_bigCmp (s s' : Bool) (v v' : Value) (m m' : Nat) (w : World) (hv : tInts.at w [v] (limbs m)) (hv' : tInts.at w [v'] (limbs m')) (hs : s = true → m ≠ 0) (hs' : s' = true → m' ≠ 0) (hl : (limbs m).length ≤ 1000) (hm : (limbs m').length ≤ 1000) :
    Calls Try.prog 56 #[.agg #[.bool s, v], .agg #[.bool s', v']] w fun e w' => e = .returned (.int .i64 (cmpI (sgn s m) (sgn s' m'))) ∧ More w w' := by
  obtain ⟨ao, cap, rfl⟩ := sl_len hv
  obtain ⟨ao', cap', rfl⟩ := sl_len hv'
  have HV := Lib.hid hv; have HV' := Lib.hid hv'; have HL := Lib.hid hl; have HM := Lib.hid hm; clear hv hv' hl hm
  obtain ⟨n, hn⟩ : ∃ n, n = (limbs m).length := ⟨_, rfl⟩
  obtain ⟨n', hn'⟩ : ∃ n, n = (limbs m').length := ⟨_, rfl⟩
  rw [← hn] at HV HL ⊢
  rw [← hn'] at HV' HM ⊢
  have HN := Lib.hid hn; have HN' := Lib.hid hn'; clear hn hn'
  rw [sgn_cmp]
  have HS := Lib.hid hs; have HS' := Lib.hid hs'; clear hs hs'
  cases s <;> cases s'
  · simp only [Bool.false_eq_true, if_false, if_true]
    have HX : More ((w.alloc (.cells #[.bool false, .slice ao n cap] 36)).alloc (.cells #[.bool false, .slice ao' n' cap'] 36)) ((w.alloc (.cells #[.bool false, .slice ao n cap] 36)).alloc (.cells #[.bool false, .slice ao' n' cap'] 36)) := More.refl _
    have HB : ∀ w', More ((w.alloc (.cells #[.bool false, .slice ao n cap] 36)).alloc (.cells #[.bool false, .slice ao' n' cap'] 36)) w' → w'.cell? ⟨w.heap.size, 0, none⟩ = some (.bool false) ∧ w'.cell? ⟨w.heap.size, 1, none⟩ = some (.slice ao n cap) ∧ (∀ j, w'.frozen? ⟨w.heap.size, j, none⟩ = false) ∧ w'.cell? ⟨w.heap.size + 1, 0, none⟩ = some (.bool false) ∧ w'.cell? ⟨w.heap.size + 1, 1, none⟩ = some (.slice ao' n' cap') ∧ (∀ j, w'.frozen? ⟨w.heap.size + 1, j, none⟩ = false) := fun w' h => ⟨box_new (by simp) (More.un h) 0, box_new (by simp) (More.un h) 1, fun j => box_free (by simp) (More.un h) j, box_new (by simp) h 0, box_new (by simp) h 1, fun j => box_free (by simp) h j⟩
    go_enter Try.func56, Try.ntmps56
    go_wp2_with (go_at_call 83; refine (impl_natCmp _ _ m m' _ (Ty.at_more HV.out mC) (Ty.at_more HV'.out mC) (by rw [← HN.out]; have := HL.out; omega) (by rw [← HN'.out]; have := HM.out; omega)).mono ?_; rintro e w1 ⟨rfl, hb1⟩; have HX1 : More ((w.alloc (.cells #[.bool false, .slice ao n cap] 36)).alloc (.cells #[.bool false, .slice ao' n' cap'] 36)) w1 := mC; have HB1 := HB _ HX1; have hz1 := More.size HX1; (try simp at hz1); have hb1 := hb1)
    go_ret
    exact ⟨rfl, mC⟩
  · simp only [Bool.false_eq_true, if_false, if_true]
    rw [if_neg (show ¬ (m = 0 ∧ m' = 0) from fun h => HS'.out rfl h.2)]
    have HX : More ((w.alloc (.cells #[.bool false, .slice ao n cap] 36)).alloc (.cells #[.bool true, .slice ao' n' cap'] 36)) ((w.alloc (.cells #[.bool false, .slice ao n cap] 36)).alloc (.cells #[.bool true, .slice ao' n' cap'] 36)) := More.refl _
    have HB : ∀ w', More ((w.alloc (.cells #[.bool false, .slice ao n cap] 36)).alloc (.cells #[.bool true, .slice ao' n' cap'] 36)) w' → w'.cell? ⟨w.heap.size, 0, none⟩ = some (.bool false) ∧ w'.cell? ⟨w.heap.size, 1, none⟩ = some (.slice ao n cap) ∧ (∀ j, w'.frozen? ⟨w.heap.size, j, none⟩ = false) ∧ w'.cell? ⟨w.heap.size + 1, 0, none⟩ = some (.bool true) ∧ w'.cell? ⟨w.heap.size + 1, 1, none⟩ = some (.slice ao' n' cap') ∧ (∀ j, w'.frozen? ⟨w.heap.size + 1, j, none⟩ = false) := fun w' h => ⟨box_new (by simp) (More.un h) 0, box_new (by simp) (More.un h) 1, fun j => box_free (by simp) (More.un h) j, box_new (by simp) h 0, box_new (by simp) h 1, fun j => box_free (by simp) h j⟩
    go_enter Try.func56, Try.ntmps56
    go_wp2_with fail
    go_ret
    exact ⟨rfl, mC⟩
  · simp only [Bool.false_eq_true, if_false, if_true]
    rw [if_neg (show ¬ (m = 0 ∧ m' = 0) from fun h => HS.out rfl h.1)]
    have HX : More ((w.alloc (.cells #[.bool true, .slice ao n cap] 36)).alloc (.cells #[.bool false, .slice ao' n' cap'] 36)) ((w.alloc (.cells #[.bool true, .slice ao n cap] 36)).alloc (.cells #[.bool false, .slice ao' n' cap'] 36)) := More.refl _
    have HB : ∀ w', More ((w.alloc (.cells #[.bool true, .slice ao n cap] 36)).alloc (.cells #[.bool false, .slice ao' n' cap'] 36)) w' → w'.cell? ⟨w.heap.size, 0, none⟩ = some (.bool true) ∧ w'.cell? ⟨w.heap.size, 1, none⟩ = some (.slice ao n cap) ∧ (∀ j, w'.frozen? ⟨w.heap.size, j, none⟩ = false) ∧ w'.cell? ⟨w.heap.size + 1, 0, none⟩ = some (.bool false) ∧ w'.cell? ⟨w.heap.size + 1, 1, none⟩ = some (.slice ao' n' cap') ∧ (∀ j, w'.frozen? ⟨w.heap.size + 1, j, none⟩ = false) := fun w' h => ⟨box_new (by simp) (More.un h) 0, box_new (by simp) (More.un h) 1, fun j => box_free (by simp) (More.un h) j, box_new (by simp) h 0, box_new (by simp) h 1, fun j => box_free (by simp) h j⟩
    go_enter Try.func56, Try.ntmps56
    go_wp2_with fail
    go_ret
    exact ⟨rfl, mC⟩
  · simp only [Bool.false_eq_true, if_false, if_true]
    have HX : More ((w.alloc (.cells #[.bool true, .slice ao n cap] 36)).alloc (.cells #[.bool true, .slice ao' n' cap'] 36)) ((w.alloc (.cells #[.bool true, .slice ao n cap] 36)).alloc (.cells #[.bool true, .slice ao' n' cap'] 36)) := More.refl _
    have HB : ∀ w', More ((w.alloc (.cells #[.bool true, .slice ao n cap] 36)).alloc (.cells #[.bool true, .slice ao' n' cap'] 36)) w' → w'.cell? ⟨w.heap.size, 0, none⟩ = some (.bool true) ∧ w'.cell? ⟨w.heap.size, 1, none⟩ = some (.slice ao n cap) ∧ (∀ j, w'.frozen? ⟨w.heap.size, j, none⟩ = false) ∧ w'.cell? ⟨w.heap.size + 1, 0, none⟩ = some (.bool true) ∧ w'.cell? ⟨w.heap.size + 1, 1, none⟩ = some (.slice ao' n' cap') ∧ (∀ j, w'.frozen? ⟨w.heap.size + 1, j, none⟩ = false) := fun w' h => ⟨box_new (by simp) (More.un h) 0, box_new (by simp) (More.un h) 1, fun j => box_free (by simp) (More.un h) j, box_new (by simp) h 0, box_new (by simp) h 1, fun j => box_free (by simp) h j⟩
    go_enter Try.func56, Try.ntmps56
    go_wp2_with (go_at_call 83; refine (impl_natCmp _ _ m' m _ (Ty.at_more HV'.out mC) (Ty.at_more HV.out mC) (by rw [← HN'.out]; have := HM.out; omega) (by rw [← HN.out]; have := HL.out; omega)).mono ?_; rintro e w1 ⟨rfl, hb1⟩; have HX1 : More ((w.alloc (.cells #[.bool true, .slice ao n cap] 36)).alloc (.cells #[.bool true, .slice ao' n' cap'] 36)) w1 := mC; have HB1 := HB _ HX1; have hz1 := More.size HX1; (try simp at hz1); have hb1 := hb1)
    go_ret
    exact ⟨rfl, mC⟩
set_option linter.unusedSimpArgs false in
set_option maxHeartbeats 3200000 in
theorem spec_l03Cmp (s s' : Bool) (v v' : Value) (m m' : Nat) (w : World) (hv : tInts.at w [v] (limbs m)) (hv' : tInts.at w [v'] (limbs m')) (hs : s = true → m ≠ 0) (hs' : s' = true → m' ≠ 0) (hl : (limbs m).length ≤ 1000) (hm : (limbs m').length ≤ 1000) :
    Calls Try.prog 66 #[.agg #[.bool s, v], .agg #[.bool s', v']] w fun e w' => e = .returned (.int .i64 (cmpI (sgn s m) (sgn s' m'))) ∧ More w w' := by
  obtain ⟨ao, cap, rfl⟩ := sl_len hv
  obtain ⟨ao', cap', rfl⟩ := sl_len hv'
  have HV := Lib.hid hv; have HV' := Lib.hid hv'; have HL := Lib.hid hl; have HM := Lib.hid hm; clear hv hv' hl hm
  obtain ⟨n, hn⟩ : ∃ n, n = (limbs m).length := ⟨_, rfl⟩
  obtain ⟨n', hn'⟩ : ∃ n, n = (limbs m').length := ⟨_, rfl⟩
  rw [← hn] at HV HL ⊢
  rw [← hn'] at HV' HM ⊢
  have HN := Lib.hid hn; have HN' := Lib.hid hn'; clear hn hn'
  rw [sgn_cmp]
  have HS := Lib.hid hs; have HS' := Lib.hid hs'; clear hs hs'
  cases s <;> cases s'
  · simp only [Bool.false_eq_true, if_false, if_true]
    have HX : More ((w.alloc (.cells #[.bool false, .slice ao n cap] 36)).alloc (.cells #[.bool false, .slice ao' n' cap'] 36)) ((w.alloc (.cells #[.bool false, .slice ao n cap] 36)).alloc (.cells #[.bool false, .slice ao' n' cap'] 36)) := More.refl _
    have HB : ∀ w', More ((w.alloc (.cells #[.bool false, .slice ao n cap] 36)).alloc (.cells #[.bool false, .slice ao' n' cap'] 36)) w' → w'.cell? ⟨w.heap.size, 0, none⟩ = some (.bool false) ∧ w'.cell? ⟨w.heap.size, 1, none⟩ = some (.slice ao n cap) ∧ (∀ j, w'.frozen? ⟨w.heap.size, j, none⟩ = false) ∧ w'.cell? ⟨w.heap.size + 1, 0, none⟩ = some (.bool false) ∧ w'.cell? ⟨w.heap.size + 1, 1, none⟩ = some (.slice ao' n' cap') ∧ (∀ j, w'.frozen? ⟨w.heap.size + 1, j, none⟩ = false) := fun w' h => ⟨box_new (by simp) (More.un h) 0, box_new (by simp) (More.un h) 1, fun j => box_free (by simp) (More.un h) j, box_new (by simp) h 0, box_new (by simp) h 1, fun j => box_free (by simp) h j⟩
    go_enter Try.func66, Try.ntmps66
    go_wp2_with (go_at_call 59; refine (spec_l02Cmp _ _ m m' _ (Ty.at_more HV.out mC) (Ty.at_more HV'.out mC) (by rw [← HN.out]; have := HL.out; omega) (by rw [← HN'.out]; have := HM.out; omega)).mono ?_; rintro e w1 ⟨rfl, hb1⟩; have HX1 : More ((w.alloc (.cells #[.bool false, .slice ao n cap] 36)).alloc (.cells #[.bool false, .slice ao' n' cap'] 36)) w1 := mC; have HB1 := HB _ HX1; have hz1 := More.size HX1; (try simp at hz1); have hb1 := hb1)
    go_ret
    exact ⟨rfl, mC⟩
  · simp only [Bool.false_eq_true, if_false, if_true]
    rw [if_neg (show ¬ (m = 0 ∧ m' = 0) from fun h => HS'.out rfl h.2)]
    have HX : More ((w.alloc (.cells #[.bool false, .slice ao n cap] 36)).alloc (.cells #[.bool true, .slice ao' n' cap'] 36)) ((w.alloc (.cells #[.bool false, .slice ao n cap] 36)).alloc (.cells #[.bool true, .slice ao' n' cap'] 36)) := More.refl _
    have HB : ∀ w', More ((w.alloc (.cells #[.bool false, .slice ao n cap] 36)).alloc (.cells #[.bool true, .slice ao' n' cap'] 36)) w' → w'.cell? ⟨w.heap.size, 0, none⟩ = some (.bool false) ∧ w'.cell? ⟨w.heap.size, 1, none⟩ = some (.slice ao n cap) ∧ (∀ j, w'.frozen? ⟨w.heap.size, j, none⟩ = false) ∧ w'.cell? ⟨w.heap.size + 1, 0, none⟩ = some (.bool true) ∧ w'.cell? ⟨w.heap.size + 1, 1, none⟩ = some (.slice ao' n' cap') ∧ (∀ j, w'.frozen? ⟨w.heap.size + 1, j, none⟩ = false) := fun w' h => ⟨box_new (by simp) (More.un h) 0, box_new (by simp) (More.un h) 1, fun j => box_free (by simp) (More.un h) j, box_new (by simp) h 0, box_new (by simp) h 1, fun j => box_free (by simp) h j⟩
    go_enter Try.func66, Try.ntmps66
    go_wp2_with fail
    go_ret
    exact ⟨rfl, mC⟩
  · simp only [Bool.false_eq_true, if_false, if_true]
    rw [if_neg (show ¬ (m = 0 ∧ m' = 0) from fun h => HS.out rfl h.1)]
    have HX : More ((w.alloc (.cells #[.bool true, .slice ao n cap] 36)).alloc (.cells #[.bool false, .slice ao' n' cap'] 36)) ((w.alloc (.cells #[.bool true, .slice ao n cap] 36)).alloc (.cells #[.bool false, .slice ao' n' cap'] 36)) := More.refl _
    have HB : ∀ w', More ((w.alloc (.cells #[.bool true, .slice ao n cap] 36)).alloc (.cells #[.bool false, .slice ao' n' cap'] 36)) w' → w'.cell? ⟨w.heap.size, 0, none⟩ = some (.bool true) ∧ w'.cell? ⟨w.heap.size, 1, none⟩ = some (.slice ao n cap) ∧ (∀ j, w'.frozen? ⟨w.heap.size, j, none⟩ = false) ∧ w'.cell? ⟨w.heap.size + 1, 0, none⟩ = some (.bool false) ∧ w'.cell? ⟨w.heap.size + 1, 1, none⟩ = some (.slice ao' n' cap') ∧ (∀ j, w'.frozen? ⟨w.heap.size + 1, j, none⟩ = false) := fun w' h => ⟨box_new (by simp) (More.un h) 0, box_new (by simp) (More.un h) 1, fun j => box_free (by simp) (More.un h) j, box_new (by simp) h 0, box_new (by simp) h 1, fun j => box_free (by simp) h j⟩
    go_enter Try.func66, Try.ntmps66
    go_wp2_with fail
    go_ret
    exact ⟨rfl, mC⟩
  · simp only [Bool.false_eq_true, if_false, if_true]
    have HX : More ((w.alloc (.cells #[.bool true, .slice ao n cap] 36)).alloc (.cells #[.bool true, .slice ao' n' cap'] 36)) ((w.alloc (.cells #[.bool true, .slice ao n cap] 36)).alloc (.cells #[.bool true, .slice ao' n' cap'] 36)) := More.refl _
    have HB : ∀ w', More ((w.alloc (.cells #[.bool true, .slice ao n cap] 36)).alloc (.cells #[.bool true, .slice ao' n' cap'] 36)) w' → w'.cell? ⟨w.heap.size, 0, none⟩ = some (.bool true) ∧ w'.cell? ⟨w.heap.size, 1, none⟩ = some (.slice ao n cap) ∧ (∀ j, w'.frozen? ⟨w.heap.size, j, none⟩ = false) ∧ w'.cell? ⟨w.heap.size + 1, 0, none⟩ = some (.bool true) ∧ w'.cell? ⟨w.heap.size + 1, 1, none⟩ = some (.slice ao' n' cap') ∧ (∀ j, w'.frozen? ⟨w.heap.size + 1, j, none⟩ = false) := fun w' h => ⟨box_new (by simp) (More.un h) 0, box_new (by simp) (More.un h) 1, fun j => box_free (by simp) (More.un h) j, box_new (by simp) h 0, box_new (by simp) h 1, fun j => box_free (by simp) h j⟩
    go_enter Try.func66, Try.ntmps66
    go_wp2_with (go_at_call 59; refine (spec_l02Cmp _ _ m' m _ (Ty.at_more HV'.out mC) (Ty.at_more HV.out mC) (by rw [← HN'.out]; have := HM.out; omega) (by rw [← HN.out]; have := HL.out; omega)).mono ?_; rintro e w1 ⟨rfl, hb1⟩; have HX1 : More ((w.alloc (.cells #[.bool true, .slice ao n cap] 36)).alloc (.cells #[.bool true, .slice ao' n' cap'] 36)) w1 := mC; have HB1 := HB _ HX1; have hz1 := More.size HX1; (try simp at hz1); have hb1 := hb1)
    go_ret
    exact ⟨rfl, mC⟩
theorem spec_l02Cap (v : Value) (m : Nat) (w : World) (hv : tInts.at w [v] (limbs m)) (hl : (limbs m).length ≤ 60) :
    Calls Try.prog 86 #[v] w fun e w' => ∃ u, e = .returned u ∧ More w w' ∧ tInts.at w' [u] (limbs m) := by
  have HV := Lib.hid hv; have HL := Lib.hid hl; clear hv hl
  go_enter Try.func86, Try.ntmps86
  go_wp2_with (go_at_call 62; refine (spec_l02Trim _ (limbs m) m _ (Ty.at_more HV.out mC) (by have := HL.out; omega) (limbs_isL m) (limbs_val m)).mono ?_; rintro e w1 ⟨u, rfl, hb1, g1⟩; obtain ⟨ua, uc, rfl⟩ := sl_len g1; have G1 := Lib.hid g1; clear g1; have hle : ¬ (60 : Int) < ((limbs m).length : Int) := (by have := HL.out; omega); generalize (limbs m).length = nn at *)
  go_ret
  exact ⟨_, rfl, mC, Ty.at_more G1.out mC⟩
set_option maxRecDepth 4000 in
set_option maxHeartbeats 3200000 in
theorem spec_l03Make (s : Bool) (v : Value) (m : Nat) (w : World) (hv : tInts.at w [v] (limbs m)) (hl : (limbs m).length ≤ 60) :
    Calls Try.prog 67 #[.bool s, v] w fun e w' => ∃ u, e = .returned (.agg #[.bool (decide (sgn s m < 0)), u]) ∧ More w w' ∧ tInts.fresh w.heap.size w' [u] (limbs m) := by
  have HV := Lib.hid hv; have HL := Lib.hid hl; clear hv hl
  obtain ⟨i0, hi, iz0, iz1, iz2⟩ := info_parts infoInt_
  have HS0 : Hid (decide (sgn s 0 < 0) = false) := Lib.hid (sgn_nil s)
  have HS1 : Hid (0 < (limbs m).length → decide (sgn s m < 0) = s) := Lib.hid (fun h => sgn_pos h)
  obtain ⟨n, hn⟩ : ∃ n, n = (limbs m).length := ⟨_, rfl⟩
  have HN := Lib.hid hn; clear hn
  by_cases h : 0 < n
  · have h' : (0 : Int) < (n : Int) := by omega
    have HSS : Hid (decide (sgn s m < 0) = s) := Lib.hid (HS1.out (by rw [← HN.out]; exact h))
    rw [HSS.out]
    cases s
    · skip
      have HX : More (w.alloc (.cells #[.bool false, .slice none 0 0] 36)) (w.alloc (.cells #[.bool false, .slice none 0 0] 36)) := More.refl _
      have HB : ∀ w', More (w.alloc (.cells #[.bool false, .slice none 0 0] 36)) w' → w'.cell? ⟨w.heap.size, 0, none⟩ = some (.bool false) ∧ w'.cell? ⟨w.heap.size, 1, none⟩ = some (.slice none 0 0) ∧ (∀ j, w'.frozen? ⟨w.heap.size, j, none⟩ = false) := fun w' h => ⟨box_new (by simp) h 0, box_new (by simp) h 1, fun j => box_free (by simp) h j⟩
      go_enter Try.func67, Try.ntmps67
      go_wp2_with (first | (go_at_call 86; refine (spec_l02Cap _ m _ (Ty.at_more HV.out mC) HL.out).mono ?_; rintro e w1 ⟨u, rfl, hb1, g1⟩; obtain ⟨ua, uc, e9⟩ := sl_len g1; rw [← HN.out] at e9; subst e9; have G1 := Lib.hid g1; clear g1; have HX1 : More (w.alloc (.cells #[.bool false, .slice none 0 0] 36)) w1 := mC; have HB1 := HB _ HX1; have hz1 := More.size HX1; (try simp at hz1); have hb1 := hb1; have hz9 : w.heap.size < w1.heap.size := (by have := HX1.size; simp at this; omega)) | (at_builtin; refine wpList_copyAll fInt rfl _ _ 31 rfl 3 i0 (.int .i64 0) 8 Try.underlying31 hi iz0 iz1 iz2 rfl (by decide) rfl rfl (Ty.at_more G1.out mC) (Lib.hid (by have := HL.out; omega)) (by decide) ?_))
      intro v2 w2 f2 hb2
      obtain ⟨va, vn, vc, rfl⟩ := sh1 (Ty.fresh_at f2)
      have F2 := Lib.hid f2; clear f2
      have HX2 : More (w.alloc (.cells #[.bool false, .slice none 0 0] 36)) w2 := mC; have HB2 := HB _ HX2; have hz2 := More.size HX2; (try simp at hz2); have hb2 := hb2
      go_wp2_with fail
      refine bodyPost_ret (v := .agg #[.bool false, .slice va vn vc]) ?_ rfl ?_
      rotate_left
      · exact ⟨_, rfl, mC2, Ty.fresh_mono (Ty.fresh_turns (bs := [w.heap.size]) F2.out tC (by simp; omega)) (by omega)⟩
      · simp [results, Try.results67, go_sem, *]
    · skip
      have HX : More (w.alloc (.cells #[.bool false, .slice none 0 0] 36)) (w.alloc (.cells #[.bool false, .slice none 0 0] 36)) := More.refl _
      have HB : ∀ w', More (w.alloc (.cells #[.bool false, .slice none 0 0] 36)) w' → w'.cell? ⟨w.heap.size, 0, none⟩ = some (.bool false) ∧ w'.cell? ⟨w.heap.size, 1, none⟩ = some (.slice none 0 0) ∧ (∀ j, w'.frozen? ⟨w.heap.size, j, none⟩ = false) := fun w' h => ⟨box_new (by simp) h 0, box_new (by simp) h 1, fun j => box_free (by simp) h j⟩
      go_enter Try.func67, Try.ntmps67
      go_wp2_with (first | (go_at_call 86; refine (spec_l02Cap _ m _ (Ty.at_more HV.out mC) HL.out).mono ?_; rintro e w1 ⟨u, rfl, hb1, g1⟩; obtain ⟨ua, uc, e9⟩ := sl_len g1; rw [← HN.out] at e9; subst e9; have G1 := Lib.hid g1; clear g1; have HX1 : More (w.alloc (.cells #[.bool false, .slice none 0 0] 36)) w1 := mC; have HB1 := HB _ HX1; have hz1 := More.size HX1; (try simp at hz1); have hb1 := hb1; have hz9 : w.heap.size < w1.heap.size := (by have := HX1.size; simp at this; omega)) | (at_builtin; refine wpList_copyAll fInt rfl _ _ 31 rfl 3 i0 (.int .i64 0) 8 Try.underlying31 hi iz0 iz1 iz2 rfl (by decide) rfl rfl (Ty.at_more G1.out mC) (Lib.hid (by have := HL.out; omega)) (by decide) ?_))
      intro v2 w2 f2 hb2
      obtain ⟨va, vn, vc, rfl⟩ := sh1 (Ty.fresh_at f2)
      have F2 := Lib.hid f2; clear f2
      have HX2 : More (w.alloc (.cells #[.bool false, .slice none 0 0] 36)) w2 := mC; have HB2 := HB _ HX2; have hz2 := More.size HX2; (try simp at hz2); have hb2 := hb2
      go_wp2_with fail
      refine bodyPost_ret (v := .agg #[.bool true, .slice va vn vc]) ?_ rfl ?_
      rotate_left
      · exact ⟨_, rfl, mC2, Ty.fresh_mono (Ty.fresh_turns (bs := [w.heap.size]) F2.out tC (by simp; omega)) (by omega)⟩
      · simp [results, Try.results67, go_sem, *]
  · have h0 : n = 0 := by omega
    subst h0
    have hm : m = 0 := limbs_nil.1 (List.eq_nil_of_length_eq_zero HN.out.symm)
    subst hm
    rw [HS0.out]
    cases s
    all_goals
      have HX : More (w.alloc (.cells #[.bool false, .slice none 0 0] 36)) (w.alloc (.cells #[.bool false, .slice none 0 0] 36)) := More.refl _
      have HB : ∀ w', More (w.alloc (.cells #[.bool false, .slice none 0 0] 36)) w' → w'.cell? ⟨w.heap.size, 0, none⟩ = some (.bool false) ∧ w'.cell? ⟨w.heap.size, 1, none⟩ = some (.slice none 0 0) ∧ (∀ j, w'.frozen? ⟨w.heap.size, j, none⟩ = false) := fun w' h => ⟨box_new (by simp) h 0, box_new (by simp) h 1, fun j => box_free (by simp) h j⟩
      go_enter Try.func67, Try.ntmps67
      go_wp2_with (first | (go_at_call 86; refine (spec_l02Cap _ 0 _ (Ty.at_more HV.out mC) HL.out).mono ?_; rintro e w1 ⟨u, rfl, hb1, g1⟩; obtain ⟨ua, uc, e9⟩ := sl_len g1; rw [← HN.out] at e9; subst e9; have G1 := Lib.hid g1; clear g1; have HX1 : More (w.alloc (.cells #[.bool false, .slice none 0 0] 36)) w1 := mC; have HB1 := HB _ HX1; have hz1 := More.size HX1; (try simp at hz1); have hb1 := hb1; have hz9 : w.heap.size < w1.heap.size := (by have := HX1.size; simp at this; omega)) | (at_builtin; refine wpList_copyAll fInt rfl _ _ 31 rfl 3 i0 (.int .i64 0) 8 Try.underlying31 hi iz0 iz1 iz2 rfl (by decide) rfl rfl (Ty.at_more G1.out mC) (Lib.hid (by have := HL.out; omega)) (by decide) ?_))
      intro v2 w2 f2 hb2
      obtain ⟨va, vn, vc, rfl⟩ := sh1 (Ty.fresh_at f2)
      have F2 := Lib.hid f2; clear f2
      have HX2 : More (w.alloc (.cells #[.bool false, .slice none 0 0] 36)) w2 := mC; have HB2 := HB _ HX2; have hz2 := More.size HX2; (try simp at hz2); have hb2 := hb2
      go_wp2_with fail
      refine bodyPost_ret (v := .agg #[.bool false, .slice va vn vc]) ?_ rfl ?_
      rotate_left
      · exact ⟨_, rfl, mC2, Ty.fresh_mono (Ty.fresh_turns (bs := [w.heap.size]) F2.out tC (by simp; omega)) (by omega)⟩
      · simp [results, Try.results67, go_sem, *]
end Go.Proofs.Ytnbefpfijaimjaa
