/- Whole numbers as the program lays them down: making, sums, products, comparing: the program's and the reference's. -/
import Derived.Test.YtnbefpfijaimjaaGreatDoorNatG
import Derived.Test.YtnbefpfijaimjaaGreatDoorClo
namespace Go.Proofs.YtnbefpfijaimjaaGreatDoor
open Go.RowKit
theorem sgn_nil (s : Bool) : decide (sgn s 0 < 0) = false := by rw [sgn_neg]; simp
theorem sgn_pos {s : Bool} {m : Nat} (h : 0 < (limbs m).length) : decide (sgn s m < 0) = s := by rw [sgn_neg]; have := limbs_len_pos.1 h; simp [this]
theorem sgn_mul (s t : Bool) (m n : Nat) : sgn s m * sgn t n = sgn (!(s == t)) (m * n) := by
  unfold sgn
  cases s <;> cases t <;> simp [Int.neg_mul, Int.mul_neg]
theorem sgn_same (s : Bool) (m n : Nat) : sgn s m + sgn s n = sgn s (m + n) := by unfold sgn; cases s <;> simp <;> omega
theorem sgn_diff (s : Bool) {m n : Nat} (h : n ≤ m) : sgn s m + sgn (!s) n = sgn s (m - n) := by unfold sgn; cases s <;> simp <;> omega
theorem sh1 {α : Type} {S : Ty α} {w : World} {v : Value} {l : List α} (h : (tSlice S).at w [v] l) : ∃ a n c, v = .slice a n c := by
  obtain ⟨a, c, h⟩ := sl_len h
  exact ⟨a, _, c, h⟩
/-- Limbs are not hit by a store into a cell that holds no int. -/
theorem ints_set {w : World} {v : Value} {l : List Int} {a : Addr} {x u : Value} (h : tInts.at w [v] l) (hc : w.cell? a = some x) (hx : ∀ n, x ≠ .int .i64 n) : tInts.at (w.setCell a u) [v] l := by
  obtain ⟨ao, cap, rfl, k1, k2, k3, k4⟩ := slRd_at h
  refine ⟨ao, cap, rfl, k1, k2, k3, fun hl => ?_⟩
  obtain ⟨b, off, rfl, hp, hb, he⟩ := k4 hl
  refine ⟨b, off, rfl, hp, by simpa using hb, fun k y hy => ?_⟩
  obtain ⟨c, hc1, hc2⟩ := he k y hy
  obtain rfl := hc1.1
  refine ⟨_, hc1, fun j q hq => ?_⟩
  have h3 := hc2 j q hq
  refine (World.cell?_setCell_other _ _ _ _ ?_).trans h3
  intro e
  have h4 : q = .int .i64 y := by
    cases j with
    | zero => simpa using hq.symm
    | succ j => simp at hq
  subst h4
  rw [← e, hc] at h3
  exact hx y (by simpa using h3)
theorem ints_set2 {w : World} {v : Value} {l : List Int} {r : Nat} {b : Bool} {p : Option Addr} {q t : Nat} {c0 c1 : Value} (h : tInts.at w [v] l) (h0 : w.cell? ⟨r, 0, none⟩ = some (.bool b)) (h1 : w.cell? ⟨r, 1, none⟩ = some (.slice p q t)) :
    tInts.at ((w.setCell ⟨r, 0, none⟩ c0).setCell ⟨r, 1, none⟩ c1) [v] l :=
  ints_set (ints_set h h0 (by simp)) ((World.cell?_setCell_other _ _ _ _ (by simp)).trans h1) (by simp)
theorem ints_set3 {w : World} {v : Value} {l : List Int} {r : Nat} {b : Bool} {p p' : Option Addr} {q t q' t' : Nat} {c0 c1 c2 : Value} (h : tInts.at w [v] l) (h0 : w.cell? ⟨r, 0, none⟩ = some (.bool b)) (h1 : w.cell? ⟨r, 1, none⟩ = some (.slice p q t)) (h2 : w.cell? ⟨r, 2, none⟩ = some (.slice p' q' t')) :
    tInts.at (((w.setCell ⟨r, 0, none⟩ c0).setCell ⟨r, 1, none⟩ c1).setCell ⟨r, 2, none⟩ c2) [v] l :=
  ints_set (ints_set2 h h0 h1) ((World.cell?_setCell_other _ _ _ _ (by simp)).trans ((World.cell?_setCell_other _ _ _ _ (by simp)).trans h2)) (by simp)
theorem impl_bigMake (s : Bool) (v : Value) (m : Nat) (w : World) (hv : tInts.at w [v] (limbs m)) :
    Calls Tryz.prog 140 #[.bool s, v] w fun e w' => e = .returned (.agg #[.bool (decide (sgn s m < 0)), v]) ∧ More w w' := by
  obtain ⟨ao, cap, rfl⟩ := sl_len hv
  have HS0 : Hid (decide (sgn s 0 < 0) = false) := Lib.hid (sgn_nil s)
  have HS1 : Hid (0 < (limbs m).length → decide (sgn s m < 0) = s) := Lib.hid (fun h => sgn_pos h)
  obtain ⟨n, hn⟩ : ∃ n, n = (limbs m).length := ⟨_, rfl⟩
  rw [← hn] at HS1 ⊢
  have HN := Lib.hid hn; clear hn hv
  by_cases h : 0 < n
  · have h' : (0 : Int) < (n : Int) := by omega
    rw [HS1.out h]
    cases s
    all_goals
      go_enter Tryz.func140, Tryz.ntmps140
      go_wp2_with fail
      refine bodyPost_ret (v := .agg #[.bool _, .slice ao n cap]) ?_ rfl ⟨rfl, mC2⟩
      simp [results, Tryz.results140, go_sem, *]
  · have h0 : n = 0 := by omega
    subst h0
    have hm : m = 0 := limbs_nil.1 (List.eq_nil_of_length_eq_zero HN.out.symm)
    subst hm
    rw [HS0.out]
    cases s
    all_goals
      go_enter Tryz.func140, Tryz.ntmps140
      go_wp2_with fail
      refine bodyPost_ret (v := .agg #[.bool false, .slice ao 0 cap]) ?_ rfl ⟨rfl, mC2⟩
      simp [results, Tryz.results140, go_sem, *]
set_option maxHeartbeats 3200000 in
theorem impl_bigMul (s s' : Bool) (v v' : Value) (m m' : Nat) (w : World) (hv : tInts.at w [v] (limbs m)) (hv' : tInts.at w [v'] (limbs m')) (hl : (limbs m).length ≤ 1000) (hm : (limbs m').length ≤ 1000) :
    Calls Tryz.prog 106 #[.agg #[.bool s, v], .agg #[.bool s', v']] w fun e w' => ∃ u, e = .returned (.agg #[.bool (decide (sgn s m * sgn s' m' < 0)), u]) ∧ More w w' ∧ tInts.at w' [u] (limbs (m * m')) := by
  obtain ⟨ao, cap, rfl⟩ := sl_len hv
  obtain ⟨ao', cap', rfl⟩ := sl_len hv'
  have HV := Lib.hid hv; have HV' := Lib.hid hv'; have HL := Lib.hid hl; have HM := Lib.hid hm; clear hv hv' hl hm
  obtain ⟨n, hn⟩ : ∃ n, n = (limbs m).length := ⟨_, rfl⟩
  obtain ⟨n', hn'⟩ : ∃ n, n = (limbs m').length := ⟨_, rfl⟩
  rw [← hn] at HV HL ⊢
  rw [← hn'] at HV' HM ⊢
  have HN := Lib.hid hn; have HN' := Lib.hid hn'; clear hn hn'
  rw [sgn_mul]
  have HC : ∀ w', Turns [w.heap.size + 1 + 1] (((w.alloc (.cells #[.bool s, .slice ao n cap] 24)).alloc (.cells #[.bool s', .slice ao' n' cap'] 24)).alloc (.cells #[.bool false, .slice none 0 0] 24)) w' → w'.cell? ⟨w.heap.size, 0, none⟩ = some (.bool s) ∧ w'.cell? ⟨w.heap.size, 1, none⟩ = some (.slice ao n cap) ∧ w'.cell? ⟨w.heap.size + 1, 0, none⟩ = some (.bool s') ∧ w'.cell? ⟨w.heap.size + 1, 1, none⟩ = some (.slice ao' n' cap') := fun w' h => ⟨cell_heap (box_new (by simp) (More.un (More.un (More.refl _))) 0) (h.block _ (by simp <;> omega) (by simp <;> omega)), cell_heap (box_new (by simp) (More.un (More.un (More.refl _))) 1) (h.block _ (by simp <;> omega) (by simp <;> omega)), cell_heap (box_new (by simp) (More.un (More.refl _)) 0) (h.block _ (by simp <;> omega) (by simp <;> omega)), cell_heap (box_new (by simp) (More.un (More.refl _)) 1) (h.block _ (by simp <;> omega) (by simp <;> omega))⟩
  have HX : More (((w.alloc (.cells #[.bool s, .slice ao n cap] 24)).alloc (.cells #[.bool s', .slice ao' n' cap'] 24)).alloc (.cells #[.bool false, .slice none 0 0] 24)) (((w.alloc (.cells #[.bool s, .slice ao n cap] 24)).alloc (.cells #[.bool s', .slice ao' n' cap'] 24)).alloc (.cells #[.bool false, .slice none 0 0] 24)) := More.refl _
  have HB : ∀ w', More (((w.alloc (.cells #[.bool s, .slice ao n cap] 24)).alloc (.cells #[.bool s', .slice ao' n' cap'] 24)).alloc (.cells #[.bool false, .slice none 0 0] 24)) w' → w'.cell? ⟨w.heap.size, 0, none⟩ = some (.bool s) ∧ w'.cell? ⟨w.heap.size, 1, none⟩ = some (.slice ao n cap) ∧ (∀ j, w'.frozen? ⟨w.heap.size, j, none⟩ = false) ∧ w'.cell? ⟨w.heap.size + 1, 0, none⟩ = some (.bool s') ∧ w'.cell? ⟨w.heap.size + 1, 1, none⟩ = some (.slice ao' n' cap') ∧ (∀ j, w'.frozen? ⟨w.heap.size + 1, j, none⟩ = false) ∧ w'.cell? ⟨w.heap.size + 1 + 1, 0, none⟩ = some (.bool false) ∧ w'.cell? ⟨w.heap.size + 1 + 1, 1, none⟩ = some (.slice none 0 0) ∧ (∀ j, w'.frozen? ⟨w.heap.size + 1 + 1, j, none⟩ = false) := fun w' h => ⟨box_new (by simp) (More.un (More.un h)) 0, box_new (by simp) (More.un (More.un h)) 1, fun j => box_free (by simp) (More.un (More.un h)) j, box_new (by simp) (More.un h) 0, box_new (by simp) (More.un h) 1, fun j => box_free (by simp) (More.un h) j, box_new (by simp) h 0, box_new (by simp) h 1, fun j => box_free (by simp) h j⟩
  go_enter Tryz.func106, Tryz.ntmps106
  go_wp2_with fail
  go_region_held3 (fun w' => Turns [w.heap.size + 1 + 1] (((w.alloc (.cells #[.bool s, .slice ao n cap] 24)).alloc (.cells #[.bool s', .slice ao' n' cap'] 24)).alloc (.cells #[.bool false, .slice none 0 0] 24)) w') (first | exact tC | exact mC2) (first | (go_at_call 108; refine (impl_natMul _ _ m m' _ (Ty.at_more HV.out mC) (Ty.at_more HV'.out mC) (by rw [← HN.out]; have := HL.out; omega) (by rw [← HN'.out]; have := HM.out; omega)).mono ?_; rintro e w1 ⟨u, rfl, hb1, g1⟩; obtain ⟨ua, un, uc, rfl⟩ := sh1 g1; have G1 := Lib.hid g1; clear g1; have HX1 : More (((w.alloc (.cells #[.bool s, .slice ao n cap] 24)).alloc (.cells #[.bool s', .slice ao' n' cap'] 24)).alloc (.cells #[.bool false, .slice none 0 0] 24)) w1 := mC; have HB1 := HB _ HX1; have hz1 := More.size HX1; (try simp at hz1); have hb1 := hb1) | (go_at_call 140; refine (impl_bigMake _ _ (m * m') _ (Ty.at_more G1.out mC)).mono ?_; rintro e w2 ⟨rfl, hb2⟩; have HX2 : More (((w.alloc (.cells #[.bool s, .slice ao n cap] 24)).alloc (.cells #[.bool s', .slice ao' n' cap'] 24)).alloc (.cells #[.bool false, .slice none 0 0] 24)) w2 := mC; have HB2 := HB _ HX2; have hz2 := More.size HX2; (try simp at hz2); have hb2 := hb2))
  all_goals
    go_wp2_with fail
    refine bodyPost_ret (v := .agg #[.bool (decide (sgn (!(s == s')) (m * m') < 0)), .slice ua un uc]) ?_ rfl ?_
    · simp [results, Tryz.results106, go_sem, *]
    · exact ⟨_, rfl, mC2, ints_set2 (Ty.at_more G1.out mC) (HB _ HX2).2.2.2.2.2.2.1 (HB _ HX2).2.2.2.2.2.2.2.1⟩
set_option maxHeartbeats 6400000 in
theorem impl_bigAdd (s s' : Bool) (v v' : Value) (m m' : Nat) (w : World) (hv : tInts.at w [v] (limbs m)) (hv' : tInts.at w [v'] (limbs m')) (hl : (limbs m).length ≤ 1000) (hm : (limbs m').length ≤ 1000) :
    Calls Tryz.prog 105 #[.agg #[.bool s, v], .agg #[.bool s', v']] w fun e w' => ∃ u, e = .returned (.agg #[.bool (decide (sgn s m + sgn s' m' < 0)), u]) ∧ More w w' ∧ tInts.at w' [u] (limbs (sgn s m + sgn s' m').natAbs) := by
  obtain ⟨ao, cap, rfl⟩ := sl_len hv
  obtain ⟨ao', cap', rfl⟩ := sl_len hv'
  have HV := Lib.hid hv; have HV' := Lib.hid hv'; have HL := Lib.hid hl; have HM := Lib.hid hm; clear hv hv' hl hm
  obtain ⟨n, hn⟩ : ∃ n, n = (limbs m).length := ⟨_, rfl⟩
  obtain ⟨n', hn'⟩ : ∃ n, n = (limbs m').length := ⟨_, rfl⟩
  rw [← hn] at HV HL ⊢
  rw [← hn'] at HV' HM ⊢
  have HN := Lib.hid hn; have HN' := Lib.hid hn'; clear hn hn'
  by_cases hs : s = s'
  · subst hs
    rw [sgn_same, natAbs_sgn]
    have HC : ∀ w', Turns [w.heap.size + 1 + 1] (((w.alloc (.cells #[.bool s, .slice ao n cap] 24)).alloc (.cells #[.bool s, .slice ao' n' cap'] 24)).alloc (.cells #[.bool false, .slice none 0 0] 24)) w' → w'.cell? ⟨w.heap.size, 0, none⟩ = some (.bool s) ∧ w'.cell? ⟨w.heap.size, 1, none⟩ = some (.slice ao n cap) ∧ w'.cell? ⟨w.heap.size + 1, 0, none⟩ = some (.bool s) ∧ w'.cell? ⟨w.heap.size + 1, 1, none⟩ = some (.slice ao' n' cap') := fun w' h => ⟨cell_heap (box_new (by simp) (More.un (More.un (More.refl _))) 0) (h.block _ (by simp <;> omega) (by simp <;> omega)), cell_heap (box_new (by simp) (More.un (More.un (More.refl _))) 1) (h.block _ (by simp <;> omega) (by simp <;> omega)), cell_heap (box_new (by simp) (More.un (More.refl _)) 0) (h.block _ (by simp <;> omega) (by simp <;> omega)), cell_heap (box_new (by simp) (More.un (More.refl _)) 1) (h.block _ (by simp <;> omega) (by simp <;> omega))⟩
    have HX : More (((w.alloc (.cells #[.bool s, .slice ao n cap] 24)).alloc (.cells #[.bool s, .slice ao' n' cap'] 24)).alloc (.cells #[.bool false, .slice none 0 0] 24)) (((w.alloc (.cells #[.bool s, .slice ao n cap] 24)).alloc (.cells #[.bool s, .slice ao' n' cap'] 24)).alloc (.cells #[.bool false, .slice none 0 0] 24)) := More.refl _
    have HB : ∀ w', More (((w.alloc (.cells #[.bool s, .slice ao n cap] 24)).alloc (.cells #[.bool s, .slice ao' n' cap'] 24)).alloc (.cells #[.bool false, .slice none 0 0] 24)) w' → w'.cell? ⟨w.heap.size, 0, none⟩ = some (.bool s) ∧ w'.cell? ⟨w.heap.size, 1, none⟩ = some (.slice ao n cap) ∧ (∀ j, w'.frozen? ⟨w.heap.size, j, none⟩ = false) ∧ w'.cell? ⟨w.heap.size + 1, 0, none⟩ = some (.bool s) ∧ w'.cell? ⟨w.heap.size + 1, 1, none⟩ = some (.slice ao' n' cap') ∧ (∀ j, w'.frozen? ⟨w.heap.size + 1, j, none⟩ = false) ∧ w'.cell? ⟨w.heap.size + 1 + 1, 0, none⟩ = some (.bool false) ∧ w'.cell? ⟨w.heap.size + 1 + 1, 1, none⟩ = some (.slice none 0 0) ∧ (∀ j, w'.frozen? ⟨w.heap.size + 1 + 1, j, none⟩ = false) := fun w' h => ⟨box_new (by simp) (More.un (More.un h)) 0, box_new (by simp) (More.un (More.un h)) 1, fun j => box_free (by simp) (More.un (More.un h)) j, box_new (by simp) (More.un h) 0, box_new (by simp) (More.un h) 1, fun j => box_free (by simp) (More.un h) j, box_new (by simp) h 0, box_new (by simp) h 1, fun j => box_free (by simp) h j⟩
    go_enter Tryz.func105, Tryz.ntmps105
    go_wp2_with fail
    go_region_held3 (fun w' => Turns [w.heap.size + 1 + 1] (((w.alloc (.cells #[.bool s, .slice ao n cap] 24)).alloc (.cells #[.bool s, .slice ao' n' cap'] 24)).alloc (.cells #[.bool false, .slice none 0 0] 24)) w') (first | exact tC | exact mC2) (first | (go_at_call 141; refine (impl_natAdd _ _ m m' _ (Ty.at_more HV.out mC) (Ty.at_more HV'.out mC) (by rw [← HN.out]; have := HL.out; omega) (by rw [← HN'.out]; have := HM.out; omega)).mono ?_; rintro e w1 ⟨u, rfl, hb1, g1⟩; obtain ⟨ua, un, uc, rfl⟩ := sh1 g1; have G1 := Lib.hid g1; clear g1; have HX1 : More (((w.alloc (.cells #[.bool s, .slice ao n cap] 24)).alloc (.cells #[.bool s, .slice ao' n' cap'] 24)).alloc (.cells #[.bool false, .slice none 0 0] 24)) w1 := mC; have HB1 := HB _ HX1; have hz1 := More.size HX1; (try simp at hz1); have hb1 := hb1) | (go_at_call 140; refine (impl_bigMake _ _ (m + m') _ (Ty.at_more G1.out mC)).mono ?_; rintro e w2 ⟨rfl, hb2⟩; have HX2 : More (((w.alloc (.cells #[.bool s, .slice ao n cap] 24)).alloc (.cells #[.bool s, .slice ao' n' cap'] 24)).alloc (.cells #[.bool false, .slice none 0 0] 24)) w2 := mC; have HB2 := HB _ HX2; have hz2 := More.size HX2; (try simp at hz2); have hb2 := hb2))
    all_goals
      go_wp2_with fail
      refine bodyPost_ret (v := .agg #[.bool (decide (sgn (s) (m + m') < 0)), .slice ua un uc]) ?_ rfl ?_
      · simp [results, Tryz.results105, go_sem, *]
      · exact ⟨_, rfl, mC2, ints_set2 (Ty.at_more G1.out mC) (HB _ HX2).2.2.2.2.2.2.1 (HB _ HX2).2.2.2.2.2.2.2.1⟩
  have hs2 : s' = !s := by cases s <;> cases s' <;> simp at hs <;> rfl
  subst hs2
  obtain ⟨c, ec⟩ : ∃ c, cmpI (m : Int) (m' : Int) = c := ⟨_, rfl⟩
  have EC := Lib.hid ec
  by_cases hle : m' ≤ m
  · have HLE := Lib.hid hle
    have hc : 0 ≤ c := by rw [← ec]; exact Int.not_lt.1 (fun h => by have := cmpI_neg.1 h; omega)
    clear ec
    rw [sgn_diff _ HLE.out, natAbs_sgn]
    have HC : ∀ w', Turns [w.heap.size + 1 + 1] (((w.alloc (.cells #[.bool s, .slice ao n cap] 24)).alloc (.cells #[.bool !s, .slice ao' n' cap'] 24)).alloc (.cells #[.bool false, .slice none 0 0] 24)) w' → w'.cell? ⟨w.heap.size, 0, none⟩ = some (.bool s) ∧ w'.cell? ⟨w.heap.size, 1, none⟩ = some (.slice ao n cap) ∧ w'.cell? ⟨w.heap.size + 1, 0, none⟩ = some (.bool !s) ∧ w'.cell? ⟨w.heap.size + 1, 1, none⟩ = some (.slice ao' n' cap') := fun w' h => ⟨cell_heap (box_new (by simp) (More.un (More.un (More.refl _))) 0) (h.block _ (by simp <;> omega) (by simp <;> omega)), cell_heap (box_new (by simp) (More.un (More.un (More.refl _))) 1) (h.block _ (by simp <;> omega) (by simp <;> omega)), cell_heap (box_new (by simp) (More.un (More.refl _)) 0) (h.block _ (by simp <;> omega) (by simp <;> omega)), cell_heap (box_new (by simp) (More.un (More.refl _)) 1) (h.block _ (by simp <;> omega) (by simp <;> omega))⟩
    have HX : More (((w.alloc (.cells #[.bool s, .slice ao n cap] 24)).alloc (.cells #[.bool !s, .slice ao' n' cap'] 24)).alloc (.cells #[.bool false, .slice none 0 0] 24)) (((w.alloc (.cells #[.bool s, .slice ao n cap] 24)).alloc (.cells #[.bool !s, .slice ao' n' cap'] 24)).alloc (.cells #[.bool false, .slice none 0 0] 24)) := More.refl _
    have HB : ∀ w', More (((w.alloc (.cells #[.bool s, .slice ao n cap] 24)).alloc (.cells #[.bool !s, .slice ao' n' cap'] 24)).alloc (.cells #[.bool false, .slice none 0 0] 24)) w' → w'.cell? ⟨w.heap.size, 0, none⟩ = some (.bool s) ∧ w'.cell? ⟨w.heap.size, 1, none⟩ = some (.slice ao n cap) ∧ (∀ j, w'.frozen? ⟨w.heap.size, j, none⟩ = false) ∧ w'.cell? ⟨w.heap.size + 1, 0, none⟩ = some (.bool !s) ∧ w'.cell? ⟨w.heap.size + 1, 1, none⟩ = some (.slice ao' n' cap') ∧ (∀ j, w'.frozen? ⟨w.heap.size + 1, j, none⟩ = false) ∧ w'.cell? ⟨w.heap.size + 1 + 1, 0, none⟩ = some (.bool false) ∧ w'.cell? ⟨w.heap.size + 1 + 1, 1, none⟩ = some (.slice none 0 0) ∧ (∀ j, w'.frozen? ⟨w.heap.size + 1 + 1, j, none⟩ = false) := fun w' h => ⟨box_new (by simp) (More.un (More.un h)) 0, box_new (by simp) (More.un (More.un h)) 1, fun j => box_free (by simp) (More.un (More.un h)) j, box_new (by simp) (More.un h) 0, box_new (by simp) (More.un h) 1, fun j => box_free (by simp) (More.un h) j, box_new (by simp) h 0, box_new (by simp) h 1, fun j => box_free (by simp) h j⟩
    go_enter Tryz.func105, Tryz.ntmps105
    go_wp2_with (go_at_call 142; refine (impl_natCmp _ _ m m' _ (Ty.at_more HV.out mC) (Ty.at_more HV'.out mC) (by rw [← HN.out]; have := HL.out; omega) (by rw [← HN'.out]; have := HM.out; omega)).mono ?_; rintro e w0 ⟨rfl, hb0⟩; have HX0 : More (((w.alloc (.cells #[.bool s, .slice ao n cap] 24)).alloc (.cells #[.bool !s, .slice ao' n' cap'] 24)).alloc (.cells #[.bool false, .slice none 0 0] 24)) w0 := mC; have HB0 := HB _ HX0; have hz0 := More.size HX0; (try simp at hz0); have hb0 := hb0; rw [EC.out])
    go_region_held3 (fun w' => Turns [w.heap.size + 1 + 1] (((w.alloc (.cells #[.bool s, .slice ao n cap] 24)).alloc (.cells #[.bool !s, .slice ao' n' cap'] 24)).alloc (.cells #[.bool false, .slice none 0 0] 24)) w') (first | exact tC | exact mC2) (first | (go_at_call 143; refine (impl_natSub _ _ m m' _ (Ty.at_more HV.out mC) (Ty.at_more HV'.out mC) (by rw [← HN.out]; have := HL.out; omega) (by rw [← HN'.out]; have := HM.out; omega) HLE.out).mono ?_; rintro e w1 ⟨u, rfl, hb1, g1⟩; obtain ⟨ua, un, uc, rfl⟩ := sh1 g1; have G1 := Lib.hid g1; clear g1; have HX1 : More (((w.alloc (.cells #[.bool s, .slice ao n cap] 24)).alloc (.cells #[.bool !s, .slice ao' n' cap'] 24)).alloc (.cells #[.bool false, .slice none 0 0] 24)) w1 := mC; have HB1 := HB _ HX1; have hz1 := More.size HX1; (try simp at hz1); have hb1 := hb1) | (go_at_call 140; refine (impl_bigMake _ _ (m - m') _ (Ty.at_more G1.out mC)).mono ?_; rintro e w2 ⟨rfl, hb2⟩; have HX2 : More (((w.alloc (.cells #[.bool s, .slice ao n cap] 24)).alloc (.cells #[.bool !s, .slice ao' n' cap'] 24)).alloc (.cells #[.bool false, .slice none 0 0] 24)) w2 := mC; have HB2 := HB _ HX2; have hz2 := More.size HX2; (try simp at hz2); have hb2 := hb2))
    all_goals
      go_wp2_with fail
      refine bodyPost_ret (v := .agg #[.bool (decide (sgn (s) (m - m') < 0)), .slice ua un uc]) ?_ rfl ?_
      · simp [results, Tryz.results105, go_sem, *]
      · exact ⟨_, rfl, mC2, ints_set2 (Ty.at_more G1.out mC) (HB _ HX2).2.2.2.2.2.2.1 (HB _ HX2).2.2.2.2.2.2.2.1⟩
  · have HLE : Hid (m ≤ m') := Lib.hid (by omega)
    have hc : ¬ 0 ≤ c := by rw [← ec]; have := cmpI_neg (a := (m : Int)) (b := (m' : Int)); omega
    clear ec
    rw [Int.add_comm, show sgn s m = sgn (!!s) m by simp, sgn_diff (!s) HLE.out, natAbs_sgn]
    have HC : ∀ w', Turns [w.heap.size + 1 + 1] (((w.alloc (.cells #[.bool s, .slice ao n cap] 24)).alloc (.cells #[.bool !s, .slice ao' n' cap'] 24)).alloc (.cells #[.bool false, .slice none 0 0] 24)) w' → w'.cell? ⟨w.heap.size, 0, none⟩ = some (.bool s) ∧ w'.cell? ⟨w.heap.size, 1, none⟩ = some (.slice ao n cap) ∧ w'.cell? ⟨w.heap.size + 1, 0, none⟩ = some (.bool !s) ∧ w'.cell? ⟨w.heap.size + 1, 1, none⟩ = some (.slice ao' n' cap') := fun w' h => ⟨cell_heap (box_new (by simp) (More.un (More.un (More.refl _))) 0) (h.block _ (by simp <;> omega) (by simp <;> omega)), cell_heap (box_new (by simp) (More.un (More.un (More.refl _))) 1) (h.block _ (by simp <;> omega) (by simp <;> omega)), cell_heap (box_new (by simp) (More.un (More.refl _)) 0) (h.block _ (by simp <;> omega) (by simp <;> omega)), cell_heap (box_new (by simp) (More.un (More.refl _)) 1) (h.block _ (by simp <;> omega) (by simp <;> omega))⟩
    have HX : More (((w.alloc (.cells #[.bool s, .slice ao n cap] 24)).alloc (.cells #[.bool !s, .slice ao' n' cap'] 24)).alloc (.cells #[.bool false, .slice none 0 0] 24)) (((w.alloc (.cells #[.bool s, .slice ao n cap] 24)).alloc (.cells #[.bool !s, .slice ao' n' cap'] 24)).alloc (.cells #[.bool false, .slice none 0 0] 24)) := More.refl _
    have HB : ∀ w', More (((w.alloc (.cells #[.bool s, .slice ao n cap] 24)).alloc (.cells #[.bool !s, .slice ao' n' cap'] 24)).alloc (.cells #[.bool false, .slice none 0 0] 24)) w' → w'.cell? ⟨w.heap.size, 0, none⟩ = some (.bool s) ∧ w'.cell? ⟨w.heap.size, 1, none⟩ = some (.slice ao n cap) ∧ (∀ j, w'.frozen? ⟨w.heap.size, j, none⟩ = false) ∧ w'.cell? ⟨w.heap.size + 1, 0, none⟩ = some (.bool !s) ∧ w'.cell? ⟨w.heap.size + 1, 1, none⟩ = some (.slice ao' n' cap') ∧ (∀ j, w'.frozen? ⟨w.heap.size + 1, j, none⟩ = false) ∧ w'.cell? ⟨w.heap.size + 1 + 1, 0, none⟩ = some (.bool false) ∧ w'.cell? ⟨w.heap.size + 1 + 1, 1, none⟩ = some (.slice none 0 0) ∧ (∀ j, w'.frozen? ⟨w.heap.size + 1 + 1, j, none⟩ = false) := fun w' h => ⟨box_new (by simp) (More.un (More.un h)) 0, box_new (by simp) (More.un (More.un h)) 1, fun j => box_free (by simp) (More.un (More.un h)) j, box_new (by simp) (More.un h) 0, box_new (by simp) (More.un h) 1, fun j => box_free (by simp) (More.un h) j, box_new (by simp) h 0, box_new (by simp) h 1, fun j => box_free (by simp) h j⟩
    go_enter Tryz.func105, Tryz.ntmps105
    go_wp2_with (go_at_call 142; refine (impl_natCmp _ _ m m' _ (Ty.at_more HV.out mC) (Ty.at_more HV'.out mC) (by rw [← HN.out]; have := HL.out; omega) (by rw [← HN'.out]; have := HM.out; omega)).mono ?_; rintro e w0 ⟨rfl, hb0⟩; have HX0 : More (((w.alloc (.cells #[.bool s, .slice ao n cap] 24)).alloc (.cells #[.bool !s, .slice ao' n' cap'] 24)).alloc (.cells #[.bool false, .slice none 0 0] 24)) w0 := mC; have HB0 := HB _ HX0; have hz0 := More.size HX0; (try simp at hz0); have hb0 := hb0; rw [EC.out])
    go_region_held3 (fun w' => Turns [w.heap.size + 1 + 1] (((w.alloc (.cells #[.bool s, .slice ao n cap] 24)).alloc (.cells #[.bool !s, .slice ao' n' cap'] 24)).alloc (.cells #[.bool false, .slice none 0 0] 24)) w') (first | exact tC | exact mC2) (first | (go_at_call 143; refine (impl_natSub _ _ m' m _ (Ty.at_more HV'.out mC) (Ty.at_more HV.out mC) (by rw [← HN'.out]; have := HM.out; omega) (by rw [← HN.out]; have := HL.out; omega) HLE.out).mono ?_; rintro e w1 ⟨u, rfl, hb1, g1⟩; obtain ⟨ua, un, uc, rfl⟩ := sh1 g1; have G1 := Lib.hid g1; clear g1; have HX1 : More (((w.alloc (.cells #[.bool s, .slice ao n cap] 24)).alloc (.cells #[.bool !s, .slice ao' n' cap'] 24)).alloc (.cells #[.bool false, .slice none 0 0] 24)) w1 := mC; have HB1 := HB _ HX1; have hz1 := More.size HX1; (try simp at hz1); have hb1 := hb1) | (go_at_call 140; refine (impl_bigMake _ _ (m' - m) _ (Ty.at_more G1.out mC)).mono ?_; rintro e w2 ⟨rfl, hb2⟩; have HX2 : More (((w.alloc (.cells #[.bool s, .slice ao n cap] 24)).alloc (.cells #[.bool !s, .slice ao' n' cap'] 24)).alloc (.cells #[.bool false, .slice none 0 0] 24)) w2 := mC; have HB2 := HB _ HX2; have hz2 := More.size HX2; (try simp at hz2); have hb2 := hb2))
    all_goals
      go_wp2_with fail
      refine bodyPost_ret (v := .agg #[.bool (decide (sgn (!s) (m' - m) < 0)), .slice ua un uc]) ?_ rfl ?_
      · simp [results, Tryz.results105, go_sem, *]
      · exact ⟨_, rfl, mC2, ints_set2 (Ty.at_more G1.out mC) (HB _ HX2).2.2.2.2.2.2.1 (HB _ HX2).2.2.2.2.2.2.2.1⟩
end Go.Proofs.YtnbefpfijaimjaaGreatDoor
