/- Several texts laid together; each has its own word at its head. -/
import Derived.Test.YtnbefpfijaimjaaGreatDoorGNatA
import Derived.Test.YtnbefpfijaimjaaGreatDoorApp
import Derived.Test.YtnbefpfijaimjaaGreatDoorGBase
import Derived.Deep.RegionHeld3
import Derived.Test.YtnbefpfijaimjaaGreatDoorGNatE
import Derived.Deep.DeepCutAuto
/- Copies in new memory: slices.Clone of ints; pairs laid down in either order. -/
namespace Go.Proofs.YtnbefpfijaimjaaGreatDoor
open Go.RowKit
variable {α β : Type}
theorem Ty.fresh_pairR {A : Ty α} {C : Ty β} {B : Nat} {bs : List Nat} {w1 w2 W' : World} {c1 c2 : List Value} {x : α} {y : β} (h2 : C.fresh B w1 c2 y) (t1 : Turns bs w1 W') (hk : ∀ k ∈ bs, k < B) (h1 : A.fresh w1.heap.size w2 c1 x) (t2 : Turns bs w2 W') (hB : B ≤ w1.heap.size) :
    (tProd A C).fresh B W' (c1 ++ c2) (x, y) := by
  obtain ⟨b2, d1, d2, d3⟩ := h2
  obtain ⟨b1, a1, a2, a3⟩ := h1
  have d4 := Ty.own_turns d1 t1 (fun k hk1 hk2 => by have := d3 k hk1; have := hk k hk2; omega)
  have a4 := Ty.own_turns a1 t2 (fun k hk1 hk2 => by have := a3 k hk1; have := hk k hk2; omega)
  refine ⟨b1 ++ b2, ⟨b1, b2, c1, c2, rfl, rfl, a4, d4⟩, ?_, ?_⟩
  · rw [List.nodup_append]
    refine ⟨a2, d2, fun k hk k' hk' e => ?_⟩
    subst e
    have := C.own_lt d1 k hk'
    have := a3 k hk
    omega
  · intro b hb'
    rcases List.mem_append.1 hb' with h | h
    · have := a3 b h; omega
    · exact d3 b h
theorem rat_fA {B : Nat} {bs : List Nat} {w1 w2 W' : World} {b : Bool} {m d : Value} {mag den : List Int} (h1 : tInts.fresh B w1 [m] mag) (h2 : tInts.fresh w1.heap.size w2 [d] den) (t1 : Turns bs w1 W') (t2 : Turns bs w2 W') (hk : ∀ k ∈ bs, k < B) (hB : B ≤ w1.heap.size) :
    tRat.fresh B W' [.bool b, m, d] ((b, mag), den) := by
  have q1 : tBig.fresh B w1 [.bool b, m] (b, mag) := Ty.fresh_flat fBool (c1 := [.bool b]) (x := b) rfl trivial h1
  have q2 := Ty.fresh_turns h2 t2 (fun k hk' => by have := hk k hk'; omega)
  exact Ty.fresh_pairT (c1 := [.bool b, m]) (c2 := [d]) q1 t1 hk q2 hB
theorem rat_fB {B : Nat} {bs : List Nat} {w1 w2 W' : World} {b : Bool} {m d : Value} {mag den : List Int} (h2 : tInts.fresh B w1 [d] den) (h1 : tInts.fresh w1.heap.size w2 [m] mag) (t1 : Turns bs w1 W') (t2 : Turns bs w2 W') (hk : ∀ k ∈ bs, k < B) (hB : B ≤ w1.heap.size) :
    tRat.fresh B W' [.bool b, m, d] ((b, mag), den) := by
  have q1 : tBig.fresh w1.heap.size w2 [.bool b, m] (b, mag) := Ty.fresh_flat fBool (c1 := [.bool b]) (x := b) rfl trivial h1
  exact Ty.fresh_pairR (c1 := [.bool b, m]) (c2 := [d]) h2 t1 hk q1 t2 hB

set_option maxHeartbeats 1600000 in
theorem clone_ints (v : Value) (l : List Int) (w : World) (hv : tInts.at w [v] l) (hl : l.length ≤ 1048576) :
    Calls Tryz.prog 145 #[v] w fun e w' => ∃ v', e = .returned v' ∧ More w w' ∧ tInts.fresh w.heap.size w' [v'] l := by
  obtain ⟨ao, cap, rfl, k1, k2, k3, k4⟩ := slRd_at hv
  have HV := Lib.hid hv; have HL := Lib.hid hl; clear hv hl k1 k2 k4
  obtain ⟨i0, hi, hz0, hz1, hz2⟩ := info_parts infoInt_
  have q22 : ∀ (w : World) (a : Option Addr) (n c n' c' : Nat), (binOp .eql 22 (.slice a n c) (.slice none n' c')).run Tryz.prog w = .ok (.bool a.isNone) w := fun w a n c n' c' => Lib.run_eql_slice_nil w _ _ a n c n' c' Tryz.underlying22
  cases ao with
  | none =>
    have hc : cap = 0 := k3 rfl
    subst hc
    have hl0 : l = [] := by
      obtain ⟨ao', cap', h0, q1, q2, q3, _⟩ := slRd_at HV.out
      simp at h0
      obtain ⟨rfl, rfl⟩ := h0
      exact List.eq_nil_of_length_eq_zero (by omega)
    have HZ := Lib.hid hl0; clear hl0 k3
    go_enter Tryz.func145, Tryz.ntmps145
    go_wp2_with fail
    go_ret
    exact ⟨_, rfl, mC, by rw [HZ.out]; exact nil_fresh⟩
  | some ad =>
    clear k3
    go_enter Tryz.func145, Tryz.ntmps145
    go_wp2_with (at_builtin; refine wpList_copyAll fInt rfl _ _ 22 rfl 3 i0 (.int .i64 0) 8 Tryz.underlying22 hi hz0 hz1 hz2 rfl (by decide) rfl rfl (Ty.at_more HV.out mC) (Lib.hid (by have := HL.out; omega)) (by decide) ?_)
    intro v' w1 f1 b1
    go_wp2_with fail
    go_ret
    exact ⟨_, rfl, mC, Ty.fresh_mono f1 (by simp)⟩
end Go.Proofs.YtnbefpfijaimjaaGreatDoor
/- Whole numbers as the program lays them down: making, sums, products, comparing: the program's and the reference's. -/
namespace Go.Proofs.YtnbefpfijaimjaaGreatDoor
open Go.RowKit
theorem sgn_nil (s : Bool) : decide (sgn s 0 < 0) = false := by rw [sgn_neg]; simp
theorem sgn_pos {s : Bool} {m : Nat} (h : 0 < (limbs m).length) : decide (sgn s m < 0) = s := by rw [sgn_neg]; have := limbs_len_pos.1 h; simp [this]
theorem sgn_mul (s t : Bool) (m n : Nat) : sgn s m * sgn t n = sgn (!(s == t)) (m * n) := by
  unfold sgn
  cases s <;> cases t <;> simp [Int.neg_mul, Int.mul_neg]
theorem sgn_same (s : Bool) (m n : Nat) : sgn s m + sgn s n = sgn s (m + n) := by unfold sgn; cases s <;> simp <;> omega
theorem sgn_diff (s : Bool) {m n : Nat} (h : n ≤ m) : sgn s m + sgn (!s) n = sgn s (m - n) := by unfold sgn; cases s <;> simp <;> omega
theorem sh1 {α : Type} {S : Ty α} {w : World} {v : Value} {l : List α} (h : (tSlice S).at w [v] l) : ∃ a n c, v = .slice a n c := by
  obtain ⟨a, c, h⟩ := sl_len h
  exact ⟨a, _, c, h⟩
/-- Limbs are not hit by a store into a cell that holds no int. -/
theorem ints_set {w : World} {v : Value} {l : List Int} {a : Addr} {x u : Value} (h : tInts.at w [v] l) (hc : w.cell? a = some x) (hx : ∀ n, x ≠ .int .i64 n) : tInts.at (w.setCell a u) [v] l := by
  obtain ⟨ao, cap, rfl, k1, k2, k3, k4⟩ := slRd_at h
  refine ⟨ao, cap, rfl, k1, k2, k3, fun hl => ?_⟩
  obtain ⟨b, off, rfl, hp, hb, he⟩ := k4 hl
  refine ⟨b, off, rfl, hp, by simpa using hb, fun k y hy => ?_⟩
  obtain ⟨c, hc1, hc2⟩ := he k y hy
  obtain rfl := hc1.1
  refine ⟨_, hc1, fun j q hq => ?_⟩
  have h3 := hc2 j q hq
  refine (World.cell?_setCell_other _ _ _ _ ?_).trans h3
  intro e
  have h4 : q = .int .i64 y := by
    cases j with
    | zero => simpa using hq.symm
    | succ j => simp at hq
  subst h4
  rw [← e, hc] at h3
  exact hx y (by simpa using h3)
theorem ints_set2 {w : World} {v : Value} {l : List Int} {r : Nat} {b : Bool} {p : Option Addr} {q t : Nat} {c0 c1 : Value} (h : tInts.at w [v] l) (h0 : w.cell? ⟨r, 0, none⟩ = some (.bool b)) (h1 : w.cell? ⟨r, 1, none⟩ = some (.slice p q t)) :
    tInts.at ((w.setCell ⟨r, 0, none⟩ c0).setCell ⟨r, 1, none⟩ c1) [v] l :=
  ints_set (ints_set h h0 (by simp)) ((World.cell?_setCell_other _ _ _ _ (by simp)).trans h1) (by simp)
theorem ints_set3 {w : World} {v : Value} {l : List Int} {r : Nat} {b : Bool} {p p' : Option Addr} {q t q' t' : Nat} {c0 c1 c2 : Value} (h : tInts.at w [v] l) (h0 : w.cell? ⟨r, 0, none⟩ = some (.bool b)) (h1 : w.cell? ⟨r, 1, none⟩ = some (.slice p q t)) (h2 : w.cell? ⟨r, 2, none⟩ = some (.slice p' q' t')) :
    tInts.at (((w.setCell ⟨r, 0, none⟩ c0).setCell ⟨r, 1, none⟩ c1).setCell ⟨r, 2, none⟩ c2) [v] l :=
  ints_set (ints_set2 h h0 h1) ((World.cell?_setCell_other _ _ _ _ (by simp)).trans ((World.cell?_setCell_other _ _ _ _ (by simp)).trans h2)) (by simp)
theorem impl_bigMake (s : Bool) (v : Value) (m : Nat) (w : World) (hv : tInts.at w [v] (limbs m)) :
    Calls Tryz.prog 140 #[.bool s, v] w fun e w' => e = .returned (.agg #[.bool (decide (sgn s m < 0)), v]) ∧ More w w' := by
  obtain ⟨ao, cap, rfl⟩ := sl_len hv
  have HS0 : Hid (decide (sgn s 0 < 0) = false) := Lib.hid (sgn_nil s)
  have HS1 : Hid (0 < (limbs m).length → decide (sgn s m < 0) = s) := Lib.hid (fun h => sgn_pos h)
  obtain ⟨n, hn⟩ : ∃ n, n = (limbs m).length := ⟨_, rfl⟩
  rw [← hn] at HS1 ⊢
  have HN := Lib.hid hn; clear hn hv
  by_cases h : 0 < n
  · have h' : (0 : Int) < (n : Int) := by omega
    rw [HS1.out h]
    cases s
    all_goals
      go_enter Tryz.func140, Tryz.ntmps140
      go_wp2_with fail
      refine bodyPost_ret (v := .agg #[.bool _, .slice ao n cap]) ?_ rfl ⟨rfl, mC2⟩
      simp [results, Tryz.results140, go_sem, *]
  · have h0 : n = 0 := by omega
    subst h0
    have hm : m = 0 := limbs_nil.1 (List.eq_nil_of_length_eq_zero HN.out.symm)
    subst hm
    rw [HS0.out]
    cases s
    all_goals
      go_enter Tryz.func140, Tryz.ntmps140
      go_wp2_with fail
      refine bodyPost_ret (v := .agg #[.bool false, .slice ao 0 cap]) ?_ rfl ⟨rfl, mC2⟩
      simp [results, Tryz.results140, go_sem, *]
set_option maxHeartbeats 3200000 in
theorem impl_bigMul (s s' : Bool) (v v' : Value) (m m' : Nat) (w : World) (hv : tInts.at w [v] (limbs m)) (hv' : tInts.at w [v'] (limbs m')) (hl : (limbs m).length ≤ 1000) (hm : (limbs m').length ≤ 1000) :
    Calls Tryz.prog 106 #[.agg #[.bool s, v], .agg #[.bool s', v']] w fun e w' => ∃ u, e = .returned (.agg #[.bool (decide (sgn s m * sgn s' m' < 0)), u]) ∧ More w w' ∧ tInts.at w' [u] (limbs (m * m')) := by
  obtain ⟨ao, cap, rfl⟩ := sl_len hv
  obtain ⟨ao', cap', rfl⟩ := sl_len hv'
  have HV := Lib.hid hv; have HV' := Lib.hid hv'; have HL := Lib.hid hl; have HM := Lib.hid hm; clear hv hv' hl hm
  obtain ⟨n, hn⟩ : ∃ n, n = (limbs m).length := ⟨_, rfl⟩
  obtain ⟨n', hn'⟩ : ∃ n, n = (limbs m').length := ⟨_, rfl⟩
  rw [← hn] at HV HL ⊢
  rw [← hn'] at HV' HM ⊢
  have HN := Lib.hid hn; have HN' := Lib.hid hn'; clear hn hn'
  rw [sgn_mul]
  have HC : ∀ w', Turns [w.heap.size + 1 + 1] (((w.alloc (.cells #[.bool s, .slice ao n cap] 24)).alloc (.cells #[.bool s', .slice ao' n' cap'] 24)).alloc (.cells #[.bool false, .slice none 0 0] 24)) w' → w'.cell? ⟨w.heap.size, 0, none⟩ = some (.bool s) ∧ w'.cell? ⟨w.heap.size, 1, none⟩ = some (.slice ao n cap) ∧ w'.cell? ⟨w.heap.size + 1, 0, none⟩ = some (.bool s') ∧ w'.cell? ⟨w.heap.size + 1, 1, none⟩ = some (.slice ao' n' cap') := fun w' h => ⟨cell_heap (box_new (by simp) (More.un (More.un (More.refl _))) 0) (h.block _ (by simp <;> omega) (by simp <;> omega)), cell_heap (box_new (by simp) (More.un (More.un (More.refl _))) 1) (h.block _ (by simp <;> omega) (by simp <;> omega)), cell_heap (box_new (by simp) (More.un (More.refl _)) 0) (h.block _ (by simp <;> omega) (by simp <;> omega)), cell_heap (box_new (by simp) (More.un (More.refl _)) 1) (h.block _ (by simp <;> omega) (by simp <;> omega))⟩
  have HX : More (((w.alloc (.cells #[.bool s, .slice ao n cap] 24)).alloc (.cells #[.bool s', .slice ao' n' cap'] 24)).alloc (.cells #[.bool false, .slice none 0 0] 24)) (((w.alloc (.cells #[.bool s, .slice ao n cap] 24)).alloc (.cells #[.bool s', .slice ao' n' cap'] 24)).alloc (.cells #[.bool false, .slice none 0 0] 24)) := More.refl _
  have HB : ∀ w', More (((w.alloc (.cells #[.bool s, .slice ao n cap] 24)).alloc (.cells #[.bool s', .slice ao' n' cap'] 24)).alloc (.cells #[.bool false, .slice none 0 0] 24)) w' → w'.cell? ⟨w.heap.size, 0, none⟩ = some (.bool s) ∧ w'.cell? ⟨w.heap.size, 1, none⟩ = some (.slice ao n cap) ∧ (∀ j, w'.frozen? ⟨w.heap.size, j, none⟩ = false) ∧ w'.cell? ⟨w.heap.size + 1, 0, none⟩ = some (.bool s') ∧ w'.cell? ⟨w.heap.size + 1, 1, none⟩ = some (.slice ao' n' cap') ∧ (∀ j, w'.frozen? ⟨w.heap.size + 1, j, none⟩ = false) ∧ w'.cell? ⟨w.heap.size + 1 + 1, 0, none⟩ = some (.bool false) ∧ w'.cell? ⟨w.heap.size + 1 + 1, 1, none⟩ = some (.slice none 0 0) ∧ (∀ j, w'.frozen? ⟨w.heap.size + 1 + 1, j, none⟩ = false) := fun w' h => ⟨box_new (by simp) (More.un (More.un h)) 0, box_new (by simp) (More.un (More.un h)) 1, fun j => box_free (by simp) (More.un (More.un h)) j, box_new (by simp) (More.un h) 0, box_new (by simp) (More.un h) 1, fun j => box_free (by simp) (More.un h) j, box_new (by simp) h 0, box_new (by simp) h 1, fun j => box_free (by simp) h j⟩
  go_enter Tryz.func106, Tryz.ntmps106
  go_wp2_with fail
  go_region_held3 (fun w' => Turns [w.heap.size + 1 + 1] (((w.alloc (.cells #[.bool s, .slice ao n cap] 24)).alloc (.cells #[.bool s', .slice ao' n' cap'] 24)).alloc (.cells #[.bool false, .slice none 0 0] 24)) w') (first | exact tC | exact mC2) (first | (go_at_call 108; refine (impl_natMul _ _ m m' _ (Ty.at_more HV.out mC) (Ty.at_more HV'.out mC) (by rw [← HN.out]; have := HL.out; omega) (by rw [← HN'.out]; have := HM.out; omega)).mono ?_; rintro e w1 ⟨u, rfl, hb1, g1⟩; obtain ⟨ua, un, uc, rfl⟩ := sh1 g1; have G1 := Lib.hid g1; clear g1; have HX1 : More (((w.alloc (.cells #[.bool s, .slice ao n cap] 24)).alloc (.cells #[.bool s', .slice ao' n' cap'] 24)).alloc (.cells #[.bool false, .slice none 0 0] 24)) w1 := mC; have HB1 := HB _ HX1; have hz1 := More.size HX1; (try simp at hz1); have hb1 := hb1) | (go_at_call 140; refine (impl_bigMake _ _ (m * m') _ (Ty.at_more G1.out mC)).mono ?_; rintro e w2 ⟨rfl, hb2⟩; have HX2 : More (((w.alloc (.cells #[.bool s, .slice ao n cap] 24)).alloc (.cells #[.bool s', .slice ao' n' cap'] 24)).alloc (.cells #[.bool false, .slice none 0 0] 24)) w2 := mC; have HB2 := HB _ HX2; have hz2 := More.size HX2; (try simp at hz2); have hb2 := hb2))
  all_goals
    go_wp2_with fail
    refine bodyPost_ret (v := .agg #[.bool (decide (sgn (!(s == s')) (m * m') < 0)), .slice ua un uc]) ?_ rfl ?_
    · simp [results, Tryz.results106, go_sem, *]
    · exact ⟨_, rfl, mC2, ints_set2 (Ty.at_more G1.out mC) (HB _ HX2).2.2.2.2.2.2.1 (HB _ HX2).2.2.2.2.2.2.2.1⟩
set_option maxHeartbeats 6400000 in
theorem impl_bigAdd (s s' : Bool) (v v' : Value) (m m' : Nat) (w : World) (hv : tInts.at w [v] (limbs m)) (hv' : tInts.at w [v'] (limbs m')) (hl : (limbs m).length ≤ 1000) (hm : (limbs m').length ≤ 1000) :
    Calls Tryz.prog 105 #[.agg #[.bool s, v], .agg #[.bool s', v']] w fun e w' => ∃ u, e = .returned (.agg #[.bool (decide (sgn s m + sgn s' m' < 0)), u]) ∧ More w w' ∧ tInts.at w' [u] (limbs (sgn s m + sgn s' m').natAbs) := by
  obtain ⟨ao, cap, rfl⟩ := sl_len hv
  obtain ⟨ao', cap', rfl⟩ := sl_len hv'
  have HV := Lib.hid hv; have HV' := Lib.hid hv'; have HL := Lib.hid hl; have HM := Lib.hid hm; clear hv hv' hl hm
  obtain ⟨n, hn⟩ : ∃ n, n = (limbs m).length := ⟨_, rfl⟩
  obtain ⟨n', hn'⟩ : ∃ n, n = (limbs m').length := ⟨_, rfl⟩
  rw [← hn] at HV HL ⊢
  rw [← hn'] at HV' HM ⊢
  have HN := Lib.hid hn; have HN' := Lib.hid hn'; clear hn hn'
  by_cases hs : s = s'
  · subst hs
    rw [sgn_same, natAbs_sgn]
    have HC : ∀ w', Turns [w.heap.size + 1 + 1] (((w.alloc (.cells #[.bool s, .slice ao n cap] 24)).alloc (.cells #[.bool s, .slice ao' n' cap'] 24)).alloc (.cells #[.bool false, .slice none 0 0] 24)) w' → w'.cell? ⟨w.heap.size, 0, none⟩ = some (.bool s) ∧ w'.cell? ⟨w.heap.size, 1, none⟩ = some (.slice ao n cap) ∧ w'.cell? ⟨w.heap.size + 1, 0, none⟩ = some (.bool s) ∧ w'.cell? ⟨w.heap.size + 1, 1, none⟩ = some (.slice ao' n' cap') := fun w' h => ⟨cell_heap (box_new (by simp) (More.un (More.un (More.refl _))) 0) (h.block _ (by simp <;> omega) (by simp <;> omega)), cell_heap (box_new (by simp) (More.un (More.un (More.refl _))) 1) (h.block _ (by simp <;> omega) (by simp <;> omega)), cell_heap (box_new (by simp) (More.un (More.refl _)) 0) (h.block _ (by simp <;> omega) (by simp <;> omega)), cell_heap (box_new (by simp) (More.un (More.refl _)) 1) (h.block _ (by simp <;> omega) (by simp <;> omega))⟩
    have HX : More (((w.alloc (.cells #[.bool s, .slice ao n cap] 24)).alloc (.cells #[.bool s, .slice ao' n' cap'] 24)).alloc (.cells #[.bool false, .slice none 0 0] 24)) (((w.alloc (.cells #[.bool s, .slice ao n cap] 24)).alloc (.cells #[.bool s, .slice ao' n' cap'] 24)).alloc (.cells #[.bool false, .slice none 0 0] 24)) := More.refl _
    have HB : ∀ w', More (((w.alloc (.cells #[.bool s, .slice ao n cap] 24)).alloc (.cells #[.bool s, .slice ao' n' cap'] 24)).alloc (.cells #[.bool false, .slice none 0 0] 24)) w' → w'.cell? ⟨w.heap.size, 0, none⟩ = some (.bool s) ∧ w'.cell? ⟨w.heap.size, 1, none⟩ = some (.slice ao n cap) ∧ (∀ j, w'.frozen? ⟨w.heap.size, j, none⟩ = false) ∧ w'.cell? ⟨w.heap.size + 1, 0, none⟩ = some (.bool s) ∧ w'.cell? ⟨w.heap.size + 1, 1, none⟩ = some (.slice ao' n' cap') ∧ (∀ j, w'.frozen? ⟨w.heap.size + 1, j, none⟩ = false) ∧ w'.cell? ⟨w.heap.size + 1 + 1, 0, none⟩ = some (.bool false) ∧ w'.cell? ⟨w.heap.size + 1 + 1, 1, none⟩ = some (.slice none 0 0) ∧ (∀ j, w'.frozen? ⟨w.heap.size + 1 + 1, j, none⟩ = false) := fun w' h => ⟨box_new (by simp) (More.un (More.un h)) 0, box_new (by simp) (More.un (More.un h)) 1, fun j => box_free (by simp) (More.un (More.un h)) j, box_new (by simp) (More.un h) 0, box_new (by simp) (More.un h) 1, fun j => box_free (by simp) (More.un h) j, box_new (by simp) h 0, box_new (by simp) h 1, fun j => box_free (by simp) h j⟩
    go_enter Tryz.func105, Tryz.ntmps105
    go_wp2_with fail
    go_region_held3 (fun w' => Turns [w.heap.size + 1 + 1] (((w.alloc (.cells #[.bool s, .slice ao n cap] 24)).alloc (.cells #[.bool s, .slice ao' n' cap'] 24)).alloc (.cells #[.bool false, .slice none 0 0] 24)) w') (first | exact tC | exact mC2) (first | (go_at_call 141; refine (impl_natAdd _ _ m m' _ (Ty.at_more HV.out mC) (Ty.at_more HV'.out mC) (by rw [← HN.out]; have := HL.out; omega) (by rw [← HN'.out]; have := HM.out; omega)).mono ?_; rintro e w1 ⟨u, rfl, hb1, g1⟩; obtain ⟨ua, un, uc, rfl⟩ := sh1 g1; have G1 := Lib.hid g1; clear g1; have HX1 : More (((w.alloc (.cells #[.bool s, .slice ao n cap] 24)).alloc (.cells #[.bool s, .slice ao' n' cap'] 24)).alloc (.cells #[.bool false, .slice none 0 0] 24)) w1 := mC; have HB1 := HB _ HX1; have hz1 := More.size HX1; (try simp at hz1); have hb1 := hb1) | (go_at_call 140; refine (impl_bigMake _ _ (m + m') _ (Ty.at_more G1.out mC)).mono ?_; rintro e w2 ⟨rfl, hb2⟩; have HX2 : More (((w.alloc (.cells #[.bool s, .slice ao n cap] 24)).alloc (.cells #[.bool s, .slice ao' n' cap'] 24)).alloc (.cells #[.bool false, .slice none 0 0] 24)) w2 := mC; have HB2 := HB _ HX2; have hz2 := More.size HX2; (try simp at hz2); have hb2 := hb2))
    all_goals
      go_wp2_with fail
      refine bodyPost_ret (v := .agg #[.bool (decide (sgn (s) (m + m') < 0)), .slice ua un uc]) ?_ rfl ?_
      · simp [results, Tryz.results105, go_sem, *]
      · exact ⟨_, rfl, mC2, ints_set2 (Ty.at_more G1.out mC) (HB _ HX2).2.2.2.2.2.2.1 (HB _ HX2).2.2.2.2.2.2.2.1⟩
  have hs2 : s' = !s := by cases s <;> cases s' <;> simp at hs <;> rfl
  subst hs2
  obtain ⟨c, ec⟩ : ∃ c, cmpI (m : Int) (m' : Int) = c := ⟨_, rfl⟩
  have EC := Lib.hid ec
  by_cases hle : m' ≤ m
  · have HLE := Lib.hid hle
    have hc : 0 ≤ c := by rw [← ec]; exact Int.not_lt.1 (fun h => by have := cmpI_neg.1 h; omega)
    clear ec
    rw [sgn_diff _ HLE.out, natAbs_sgn]
    have HC : ∀ w', Turns [w.heap.size + 1 + 1] (((w.alloc (.cells #[.bool s, .slice ao n cap] 24)).alloc (.cells #[.bool !s, .slice ao' n' cap'] 24)).alloc (.cells #[.bool false, .slice none 0 0] 24)) w' → w'.cell? ⟨w.heap.size, 0, none⟩ = some (.bool s) ∧ w'.cell? ⟨w.heap.size, 1, none⟩ = some (.slice ao n cap) ∧ w'.cell? ⟨w.heap.size + 1, 0, none⟩ = some (.bool !s) ∧ w'.cell? ⟨w.heap.size + 1, 1, none⟩ = some (.slice ao' n' cap') := fun w' h => ⟨cell_heap (box_new (by simp) (More.un (More.un (More.refl _))) 0) (h.block _ (by simp <;> omega) (by simp <;> omega)), cell_heap (box_new (by simp) (More.un (More.un (More.refl _))) 1) (h.block _ (by simp <;> omega) (by simp <;> omega)), cell_heap (box_new (by simp) (More.un (More.refl _)) 0) (h.block _ (by simp <;> omega) (by simp <;> omega)), cell_heap (box_new (by simp) (More.un (More.refl _)) 1) (h.block _ (by simp <;> omega) (by simp <;> omega))⟩
    have HX : More (((w.alloc (.cells #[.bool s, .slice ao n cap] 24)).alloc (.cells #[.bool !s, .slice ao' n' cap'] 24)).alloc (.cells #[.bool false, .slice none 0 0] 24)) (((w.alloc (.cells #[.bool s, .slice ao n cap] 24)).alloc (.cells #[.bool !s, .slice ao' n' cap'] 24)).alloc (.cells #[.bool false, .slice none 0 0] 24)) := More.refl _
    have HB : ∀ w', More (((w.alloc (.cells #[.bool s, .slice ao n cap] 24)).alloc (.cells #[.bool !s, .slice ao' n' cap'] 24)).alloc (.cells #[.bool false, .slice none 0 0] 24)) w' → w'.cell? ⟨w.heap.size, 0, none⟩ = some (.bool s) ∧ w'.cell? ⟨w.heap.size, 1, none⟩ = some (.slice ao n cap) ∧ (∀ j, w'.frozen? ⟨w.heap.size, j, none⟩ = false) ∧ w'.cell? ⟨w.heap.size + 1, 0, none⟩ = some (.bool !s) ∧ w'.cell? ⟨w.heap.size + 1, 1, none⟩ = some (.slice ao' n' cap') ∧ (∀ j, w'.frozen? ⟨w.heap.size + 1, j, none⟩ = false) ∧ w'.cell? ⟨w.heap.size + 1 + 1, 0, none⟩ = some (.bool false) ∧ w'.cell? ⟨w.heap.size + 1 + 1, 1, none⟩ = some (.slice none 0 0) ∧ (∀ j, w'.frozen? ⟨w.heap.size + 1 + 1, j, none⟩ = false) := fun w' h => ⟨box_new (by simp) (More.un (More.un h)) 0, box_new (by simp) (More.un (More.un h)) 1, fun j => box_free (by simp) (More.un (More.un h)) j, box_new (by simp) (More.un h) 0, box_new (by simp) (More.un h) 1, fun j => box_free (by simp) (More.un h) j, box_new (by simp) h 0, box_new (by simp) h 1, fun j => box_free (by simp) h j⟩
    go_enter Tryz.func105, Tryz.ntmps105
    go_wp2_with (go_at_call 142; refine (impl_natCmp _ _ m m' _ (Ty.at_more HV.out mC) (Ty.at_more HV'.out mC) (by rw [← HN.out]; have := HL.out; omega) (by rw [← HN'.out]; have := HM.out; omega)).mono ?_; rintro e w0 ⟨rfl, hb0⟩; have HX0 : More (((w.alloc (.cells #[.bool s, .slice ao n cap] 24)).alloc (.cells #[.bool !s, .slice ao' n' cap'] 24)).alloc (.cells #[.bool false, .slice none 0 0] 24)) w0 := mC; have HB0 := HB _ HX0; have hz0 := More.size HX0; (try simp at hz0); have hb0 := hb0; rw [EC.out])
    go_region_held3 (fun w' => Turns [w.heap.size + 1 + 1] (((w.alloc (.cells #[.bool s, .slice ao n cap] 24)).alloc (.cells #[.bool !s, .slice ao' n' cap'] 24)).alloc (.cells #[.bool false, .slice none 0 0] 24)) w') (first | exact tC | exact mC2) (first | (go_at_call 143; refine (impl_natSub _ _ m m' _ (Ty.at_more HV.out mC) (Ty.at_more HV'.out mC) (by rw [← HN.out]; have := HL.out; omega) (by rw [← HN'.out]; have := HM.out; omega) HLE.out).mono ?_; rintro e w1 ⟨u, rfl, hb1, g1⟩; obtain ⟨ua, un, uc, rfl⟩ := sh1 g1; have G1 := Lib.hid g1; clear g1; have HX1 : More (((w.alloc (.cells #[.bool s, .slice ao n cap] 24)).alloc (.cells #[.bool !s, .slice ao' n' cap'] 24)).alloc (.cells #[.bool false, .slice none 0 0] 24)) w1 := mC; have HB1 := HB _ HX1; have hz1 := More.size HX1; (try simp at hz1); have hb1 := hb1) | (go_at_call 140; refine (impl_bigMake _ _ (m - m') _ (Ty.at_more G1.out mC)).mono ?_; rintro e w2 ⟨rfl, hb2⟩; have HX2 : More (((w.alloc (.cells #[.bool s, .slice ao n cap] 24)).alloc (.cells #[.bool !s, .slice ao' n' cap'] 24)).alloc (.cells #[.bool false, .slice none 0 0] 24)) w2 := mC; have HB2 := HB _ HX2; have hz2 := More.size HX2; (try simp at hz2); have hb2 := hb2))
    all_goals
      go_wp2_with fail
      refine bodyPost_ret (v := .agg #[.bool (decide (sgn (s) (m - m') < 0)), .slice ua un uc]) ?_ rfl ?_
      · simp [results, Tryz.results105, go_sem, *]
      · exact ⟨_, rfl, mC2, ints_set2 (Ty.at_more G1.out mC) (HB _ HX2).2.2.2.2.2.2.1 (HB _ HX2).2.2.2.2.2.2.2.1⟩
  · have HLE : Hid (m ≤ m') := Lib.hid (by omega)
    have hc : ¬ 0 ≤ c := by rw [← ec]; have := cmpI_neg (a := (m : Int)) (b := (m' : Int)); omega
    clear ec
    rw [Int.add_comm, show sgn s m = sgn (!!s) m by simp, sgn_diff (!s) HLE.out, natAbs_sgn]
    have HC : ∀ w', Turns [w.heap.size + 1 + 1] (((w.alloc (.cells #[.bool s, .slice ao n cap] 24)).alloc (.cells #[.bool !s, .slice ao' n' cap'] 24)).alloc (.cells #[.bool false, .slice none 0 0] 24)) w' → w'.cell? ⟨w.heap.size, 0, none⟩ = some (.bool s) ∧ w'.cell? ⟨w.heap.size, 1, none⟩ = some (.slice ao n cap) ∧ w'.cell? ⟨w.heap.size + 1, 0, none⟩ = some (.bool !s) ∧ w'.cell? ⟨w.heap.size + 1, 1, none⟩ = some (.slice ao' n' cap') := fun w' h => ⟨cell_heap (box_new (by simp) (More.un (More.un (More.refl _))) 0) (h.block _ (by simp <;> omega) (by simp <;> omega)), cell_heap (box_new (by simp) (More.un (More.un (More.refl _))) 1) (h.block _ (by simp <;> omega) (by simp <;> omega)), cell_heap (box_new (by simp) (More.un (More.refl _)) 0) (h.block _ (by simp <;> omega) (by simp <;> omega)), cell_heap (box_new (by simp) (More.un (More.refl _)) 1) (h.block _ (by simp <;> omega) (by simp <;> omega))⟩
    have HX : More (((w.alloc (.cells #[.bool s, .slice ao n cap] 24)).alloc (.cells #[.bool !s, .slice ao' n' cap'] 24)).alloc (.cells #[.bool false, .slice none 0 0] 24)) (((w.alloc (.cells #[.bool s, .slice ao n cap] 24)).alloc (.cells #[.bool !s, .slice ao' n' cap'] 24)).alloc (.cells #[.bool false, .slice none 0 0] 24)) := More.refl _
    have HB : ∀ w', More (((w.alloc (.cells #[.bool s, .slice ao n cap] 24)).alloc (.cells #[.bool !s, .slice ao' n' cap'] 24)).alloc (.cells #[.bool false, .slice none 0 0] 24)) w' → w'.cell? ⟨w.heap.size, 0, none⟩ = some (.bool s) ∧ w'.cell? ⟨w.heap.size, 1, none⟩ = some (.slice ao n cap) ∧ (∀ j, w'.frozen? ⟨w.heap.size, j, none⟩ = false) ∧ w'.cell? ⟨w.heap.size + 1, 0, none⟩ = some (.bool !s) ∧ w'.cell? ⟨w.heap.size + 1, 1, none⟩ = some (.slice ao' n' cap') ∧ (∀ j, w'.frozen? ⟨w.heap.size + 1, j, none⟩ = false) ∧ w'.cell? ⟨w.heap.size + 1 + 1, 0, none⟩ = some (.bool false) ∧ w'.cell? ⟨w.heap.size + 1 + 1, 1, none⟩ = some (.slice none 0 0) ∧ (∀ j, w'.frozen? ⟨w.heap.size + 1 + 1, j, none⟩ = false) := fun w' h => ⟨box_new (by simp) (More.un (More.un h)) 0, box_new (by simp) (More.un (More.un h)) 1, fun j => box_free (by simp) (More.un (More.un h)) j, box_new (by simp) (More.un h) 0, box_new (by simp) (More.un h) 1, fun j => box_free (by simp) (More.un h) j, box_new (by simp) h 0, box_new (by simp) h 1, fun j => box_free (by simp) h j⟩
    go_enter Tryz.func105, Tryz.ntmps105
    go_wp2_with (go_at_call 142; refine (impl_natCmp _ _ m m' _ (Ty.at_more HV.out mC) (Ty.at_more HV'.out mC) (by rw [← HN.out]; have := HL.out; omega) (by rw [← HN'.out]; have := HM.out; omega)).mono ?_; rintro e w0 ⟨rfl, hb0⟩; have HX0 : More (((w.alloc (.cells #[.bool s, .slice ao n cap] 24)).alloc (.cells #[.bool !s, .slice ao' n' cap'] 24)).alloc (.cells #[.bool false, .slice none 0 0] 24)) w0 := mC; have HB0 := HB _ HX0; have hz0 := More.size HX0; (try simp at hz0); have hb0 := hb0; rw [EC.out])
    go_region_held3 (fun w' => Turns [w.heap.size + 1 + 1] (((w.alloc (.cells #[.bool s, .slice ao n cap] 24)).alloc (.cells #[.bool !s, .slice ao' n' cap'] 24)).alloc (.cells #[.bool false, .slice none 0 0] 24)) w') (first | exact tC | exact mC2) (first | (go_at_call 143; refine (impl_natSub _ _ m' m _ (Ty.at_more HV'.out mC) (Ty.at_more HV.out mC) (by rw [← HN'.out]; have := HM.out; omega) (by rw [← HN.out]; have := HL.out; omega) HLE.out).mono ?_; rintro e w1 ⟨u, rfl, hb1, g1⟩; obtain ⟨ua, un, uc, rfl⟩ := sh1 g1; have G1 := Lib.hid g1; clear g1; have HX1 : More (((w.alloc (.cells #[.bool s, .slice ao n cap] 24)).alloc (.cells #[.bool !s, .slice ao' n' cap'] 24)).alloc (.cells #[.bool false, .slice none 0 0] 24)) w1 := mC; have HB1 := HB _ HX1; have hz1 := More.size HX1; (try simp at hz1); have hb1 := hb1) | (go_at_call 140; refine (impl_bigMake _ _ (m' - m) _ (Ty.at_more G1.out mC)).mono ?_; rintro e w2 ⟨rfl, hb2⟩; have HX2 : More (((w.alloc (.cells #[.bool s, .slice ao n cap] 24)).alloc (.cells #[.bool !s, .slice ao' n' cap'] 24)).alloc (.cells #[.bool false, .slice none 0 0] 24)) w2 := mC; have HB2 := HB _ HX2; have hz2 := More.size HX2; (try simp at hz2); have hb2 := hb2))
    all_goals
      go_wp2_with fail
      refine bodyPost_ret (v := .agg #[.bool (decide (sgn (!s) (m' - m) < 0)), .slice ua un uc]) ?_ rfl ?_
      · simp [results, Tryz.results105, go_sem, *]
      · exact ⟨_, rfl, mC2, ints_set2 (Ty.at_more G1.out mC) (HB _ HX2).2.2.2.2.2.2.1 (HB _ HX2).2.2.2.2.2.2.2.1⟩
end Go.Proofs.YtnbefpfijaimjaaGreatDoor
/- Whole numbers: comparing; the reference's making, sums. -/
namespace Go.Proofs.YtnbefpfijaimjaaGreatDoor
open Go.RowKit
theorem sgn_cmp (s s' : Bool) (m m' : Nat) : cmpI (sgn s m) (sgn s' m') = if s then (if s' then cmpI (m' : Int) (m : Int) else if m = 0 ∧ m' = 0 then 0 else -1) else (if s' then (if m = 0 ∧ m' = 0 then 0 else 1) else cmpI (m : Int) (m' : Int)) := by
  unfold sgn cmpI
  cases s <;> cases s' <;> simp <;> (try split) <;> (try split) <;> omega
theorem spec_l02Cap (v : Value) (m : Nat) (w : World) (hv : tInts.at w [v] (limbs m)) (hl : (limbs m).length ≤ 60) :
    Calls Tryz.prog 161 #[v] w fun e w' => ∃ u, e = .returned u ∧ More w w' ∧ tInts.at w' [u] (limbs m) := by
  have HV := Lib.hid hv; have HL := Lib.hid hl; clear hv hl
  go_enter Tryz.func161, Tryz.ntmps161
  go_wp2_with (go_at_call 79; refine (spec_l02Trim _ (limbs m) m _ (Ty.at_more HV.out mC) (by have := HL.out; omega) (limbs_isL m) (limbs_val m)).mono ?_; rintro e w1 ⟨u, rfl, hb1, g1⟩; obtain ⟨ua, uc, rfl⟩ := sl_len g1; have G1 := Lib.hid g1; clear g1; have hle : ¬ (60 : Int) < ((limbs m).length : Int) := (by have := HL.out; omega); generalize (limbs m).length = nn at *)
  go_ret
  exact ⟨_, rfl, mC, Ty.at_more G1.out mC⟩
set_option maxRecDepth 4000 in
set_option maxHeartbeats 3200000 in
theorem spec_l03Make (s : Bool) (v : Value) (m : Nat) (w : World) (hv : tInts.at w [v] (limbs m)) (hl : (limbs m).length ≤ 60) :
    Calls Tryz.prog 128 #[.bool s, v] w fun e w' => ∃ u, e = .returned (.agg #[.bool (decide (sgn s m < 0)), u]) ∧ More w w' ∧ tInts.fresh w.heap.size w' [u] (limbs m) := by
  have HV := Lib.hid hv; have HL := Lib.hid hl; clear hv hl
  obtain ⟨i0, hi, iz0, iz1, iz2⟩ := info_parts infoInt_
  have HS0 : Hid (decide (sgn s 0 < 0) = false) := Lib.hid (sgn_nil s)
  have HS1 : Hid (0 < (limbs m).length → decide (sgn s m < 0) = s) := Lib.hid (fun h => sgn_pos h)
  obtain ⟨n, hn⟩ : ∃ n, n = (limbs m).length := ⟨_, rfl⟩
  have HN := Lib.hid hn; clear hn
  by_cases h : 0 < n
  · have h' : (0 : Int) < (n : Int) := by omega
    have HSS : Hid (decide (sgn s m < 0) = s) := Lib.hid (HS1.out (by rw [← HN.out]; exact h))
    rw [HSS.out]
    cases s
    · skip
      have HX : More (w.alloc (.cells #[.bool false, .slice none 0 0] 24)) (w.alloc (.cells #[.bool false, .slice none 0 0] 24)) := More.refl _
      have HB : ∀ w', More (w.alloc (.cells #[.bool false, .slice none 0 0] 24)) w' → w'.cell? ⟨w.heap.size, 0, none⟩ = some (.bool false) ∧ w'.cell? ⟨w.heap.size, 1, none⟩ = some (.slice none 0 0) ∧ (∀ j, w'.frozen? ⟨w.heap.size, j, none⟩ = false) := fun w' h => ⟨box_new (by simp) h 0, box_new (by simp) h 1, fun j => box_free (by simp) h j⟩
      go_enter Tryz.func128, Tryz.ntmps128
      go_wp2_with (first | (go_at_call 161; refine (spec_l02Cap _ m _ (Ty.at_more HV.out mC) HL.out).mono ?_; rintro e w1 ⟨u, rfl, hb1, g1⟩; obtain ⟨ua, uc, e9⟩ := sl_len g1; rw [← HN.out] at e9; subst e9; have G1 := Lib.hid g1; clear g1; have HX1 : More (w.alloc (.cells #[.bool false, .slice none 0 0] 24)) w1 := mC; have HB1 := HB _ HX1; have hz1 := More.size HX1; (try simp at hz1); have hb1 := hb1; have hz9 : w.heap.size < w1.heap.size := (by have := HX1.size; simp at this; omega)) | (at_builtin; refine wpList_copyAll fInt rfl _ _ 22 rfl 3 i0 (.int .i64 0) 8 Tryz.underlying22 hi iz0 iz1 iz2 rfl (by decide) rfl rfl (Ty.at_more G1.out mC) (Lib.hid (by have := HL.out; omega)) (by decide) ?_))
      intro v2 w2 f2 hb2
      obtain ⟨va, vn, vc, rfl⟩ := sh1 (Ty.fresh_at f2)
      have F2 := Lib.hid f2; clear f2
      have HX2 : More (w.alloc (.cells #[.bool false, .slice none 0 0] 24)) w2 := mC; have HB2 := HB _ HX2; have hz2 := More.size HX2; (try simp at hz2); have hb2 := hb2
      go_wp2_with fail
      refine bodyPost_ret (v := .agg #[.bool false, .slice va vn vc]) ?_ rfl ?_
      rotate_left
      · exact ⟨_, rfl, mC2, Ty.fresh_mono (Ty.fresh_turns (bs := [w.heap.size]) F2.out tC (by simp; omega)) (by omega)⟩
      · simp [results, Tryz.results128, go_sem, *]
    · skip
      have HX : More (w.alloc (.cells #[.bool false, .slice none 0 0] 24)) (w.alloc (.cells #[.bool false, .slice none 0 0] 24)) := More.refl _
      have HB : ∀ w', More (w.alloc (.cells #[.bool false, .slice none 0 0] 24)) w' → w'.cell? ⟨w.heap.size, 0, none⟩ = some (.bool false) ∧ w'.cell? ⟨w.heap.size, 1, none⟩ = some (.slice none 0 0) ∧ (∀ j, w'.frozen? ⟨w.heap.size, j, none⟩ = false) := fun w' h => ⟨box_new (by simp) h 0, box_new (by simp) h 1, fun j => box_free (by simp) h j⟩
      go_enter Tryz.func128, Tryz.ntmps128
      go_wp2_with (first | (go_at_call 161; refine (spec_l02Cap _ m _ (Ty.at_more HV.out mC) HL.out).mono ?_; rintro e w1 ⟨u, rfl, hb1, g1⟩; obtain ⟨ua, uc, e9⟩ := sl_len g1; rw [← HN.out] at e9; subst e9; have G1 := Lib.hid g1; clear g1; have HX1 : More (w.alloc (.cells #[.bool false, .slice none 0 0] 24)) w1 := mC; have HB1 := HB _ HX1; have hz1 := More.size HX1; (try simp at hz1); have hb1 := hb1; have hz9 : w.heap.size < w1.heap.size := (by have := HX1.size; simp at this; omega)) | (at_builtin; refine wpList_copyAll fInt rfl _ _ 22 rfl 3 i0 (.int .i64 0) 8 Tryz.underlying22 hi iz0 iz1 iz2 rfl (by decide) rfl rfl (Ty.at_more G1.out mC) (Lib.hid (by have := HL.out; omega)) (by decide) ?_))
      intro v2 w2 f2 hb2
      obtain ⟨va, vn, vc, rfl⟩ := sh1 (Ty.fresh_at f2)
      have F2 := Lib.hid f2; clear f2
      have HX2 : More (w.alloc (.cells #[.bool false, .slice none 0 0] 24)) w2 := mC; have HB2 := HB _ HX2; have hz2 := More.size HX2; (try simp at hz2); have hb2 := hb2
      go_wp2_with fail
      refine bodyPost_ret (v := .agg #[.bool true, .slice va vn vc]) ?_ rfl ?_
      rotate_left
      · exact ⟨_, rfl, mC2, Ty.fresh_mono (Ty.fresh_turns (bs := [w.heap.size]) F2.out tC (by simp; omega)) (by omega)⟩
      · simp [results, Tryz.results128, go_sem, *]
  · have h0 : n = 0 := by omega
    subst h0
    have hm : m = 0 := limbs_nil.1 (List.eq_nil_of_length_eq_zero HN.out.symm)
    subst hm
    rw [HS0.out]
    cases s
    all_goals
      have HX : More (w.alloc (.cells #[.bool false, .slice none 0 0] 24)) (w.alloc (.cells #[.bool false, .slice none 0 0] 24)) := More.refl _
      have HB : ∀ w', More (w.alloc (.cells #[.bool false, .slice none 0 0] 24)) w' → w'.cell? ⟨w.heap.size, 0, none⟩ = some (.bool false) ∧ w'.cell? ⟨w.heap.size, 1, none⟩ = some (.slice none 0 0) ∧ (∀ j, w'.frozen? ⟨w.heap.size, j, none⟩ = false) := fun w' h => ⟨box_new (by simp) h 0, box_new (by simp) h 1, fun j => box_free (by simp) h j⟩
      go_enter Tryz.func128, Tryz.ntmps128
      go_wp2_with (first | (go_at_call 161; refine (spec_l02Cap _ 0 _ (Ty.at_more HV.out mC) HL.out).mono ?_; rintro e w1 ⟨u, rfl, hb1, g1⟩; obtain ⟨ua, uc, e9⟩ := sl_len g1; rw [← HN.out] at e9; subst e9; have G1 := Lib.hid g1; clear g1; have HX1 : More (w.alloc (.cells #[.bool false, .slice none 0 0] 24)) w1 := mC; have HB1 := HB _ HX1; have hz1 := More.size HX1; (try simp at hz1); have hb1 := hb1; have hz9 : w.heap.size < w1.heap.size := (by have := HX1.size; simp at this; omega)) | (at_builtin; refine wpList_copyAll fInt rfl _ _ 22 rfl 3 i0 (.int .i64 0) 8 Tryz.underlying22 hi iz0 iz1 iz2 rfl (by decide) rfl rfl (Ty.at_more G1.out mC) (Lib.hid (by have := HL.out; omega)) (by decide) ?_))
      intro v2 w2 f2 hb2
      obtain ⟨va, vn, vc, rfl⟩ := sh1 (Ty.fresh_at f2)
      have F2 := Lib.hid f2; clear f2
      have HX2 : More (w.alloc (.cells #[.bool false, .slice none 0 0] 24)) w2 := mC; have HB2 := HB _ HX2; have hz2 := More.size HX2; (try simp at hz2); have hb2 := hb2
      go_wp2_with fail
      refine bodyPost_ret (v := .agg #[.bool false, .slice va vn vc]) ?_ rfl ?_
      rotate_left
      · exact ⟨_, rfl, mC2, Ty.fresh_mono (Ty.fresh_turns (bs := [w.heap.size]) F2.out tC (by simp; omega)) (by omega)⟩
      · simp [results, Tryz.results128, go_sem, *]
end Go.Proofs.YtnbefpfijaimjaaGreatDoor
/- Boxes of two, three cells: made by an alloc, kept, filled. It speaks of no program. -/
namespace Go.Proofs.YtnbefpfijaimjaaGreatDoor
open Go.RowKit
structure Box2 (w : World) (B : Nat) (x y : Value) : Prop where
  c0 : w.cell? ⟨B, 0, none⟩ = some x
  c1 : w.cell? ⟨B, 1, none⟩ = some y
  fr : ∀ j, w.frozen? ⟨B, j, none⟩ = false
  lt : B < w.heap.size
structure Box3 (w : World) (B : Nat) (x y z : Value) : Prop where
  c0 : w.cell? ⟨B, 0, none⟩ = some x
  c1 : w.cell? ⟨B, 1, none⟩ = some y
  c2 : w.cell? ⟨B, 2, none⟩ = some z
  fr : ∀ j, w.frozen? ⟨B, j, none⟩ = false
  lt : B < w.heap.size
theorem alloc_lt {X w : World} {o : Obj} {N : Nat} (hN : X.heap.size = N) (h : More (X.alloc o) w) : N < w.heap.size := by
  have := h.size
  simp at this
  omega
theorem Box2.new {X w : World} {x y : Value} {t : TypeId} {N : Nat} (hN : X.heap.size = N) (h : More (X.alloc (.cells #[x, y] t)) w) : Box2 w N x y :=
  ⟨box_new hN h 0, box_new hN h 1, fun j => box_free hN h j, alloc_lt hN h⟩
theorem Box3.new {X w : World} {x y z : Value} {t : TypeId} {N : Nat} (hN : X.heap.size = N) (h : More (X.alloc (.cells #[x, y, z] t)) w) : Box3 w N x y z :=
  ⟨box_new hN h 0, box_new hN h 1, box_new hN h 2, fun j => box_free hN h j, alloc_lt hN h⟩
theorem More.undrew {X w : World} (h : More X.drew w) : More X w := Turns.more (((Turns.refl [] X).drew).trans (h.turns []))
theorem Box2.newD {X w : World} {x y : Value} {t : TypeId} {N : Nat} (hN : X.heap.size = N) (h : More (X.alloc (.cells #[x, y] t)).drew w) : Box2 w N x y := Box2.new hN h.undrew
theorem Box3.newD {X w : World} {x y z : Value} {t : TypeId} {N : Nat} (hN : X.heap.size = N) (h : More (X.alloc (.cells #[x, y, z] t)).drew w) : Box3 w N x y z := Box3.new hN h.undrew
theorem Box2.keep {w w' : World} {B : Nat} {x y : Value} (h : Box2 w B x y) (hm : More w w') : Box2 w' B x y :=
  ⟨box_keep hm h.lt h.c0, box_keep hm h.lt h.c1, fun j => free_keep hm h.lt (h.fr j), Nat.lt_of_lt_of_le h.lt hm.size⟩
theorem Box3.keep {w w' : World} {B : Nat} {x y z : Value} (h : Box3 w B x y z) (hm : More w w') : Box3 w' B x y z :=
  ⟨box_keep hm h.lt h.c0, box_keep hm h.lt h.c1, box_keep hm h.lt h.c2, fun j => free_keep hm h.lt (h.fr j), Nat.lt_of_lt_of_le h.lt hm.size⟩
theorem Box2.turn {w w' : World} {B : Nat} {bs : List Nat} {x y : Value} (h : Box2 w B x y) (ht : Turns bs w w') (hb : B ∉ bs) : w'.cell? ⟨B, 0, none⟩ = some x ∧ w'.cell? ⟨B, 1, none⟩ = some y :=
  ⟨cell_heap h.c0 (ht.block _ h.lt hb), cell_heap h.c1 (ht.block _ h.lt hb)⟩
theorem Box3.turn {w w' : World} {B : Nat} {bs : List Nat} {x y z : Value} (h : Box3 w B x y z) (ht : Turns bs w w') (hb : B ∉ bs) : w'.cell? ⟨B, 0, none⟩ = some x ∧ w'.cell? ⟨B, 1, none⟩ = some y ∧ w'.cell? ⟨B, 2, none⟩ = some z :=
  ⟨cell_heap h.c0 (ht.block _ h.lt hb), cell_heap h.c1 (ht.block _ h.lt hb), cell_heap h.c2 (ht.block _ h.lt hb)⟩
theorem Box2.set {w : World} {B : Nat} {x y u v : Value} (h : Box2 w B x y) : Box2 ((w.setCell ⟨B, 0, none⟩ u).setCell ⟨B, 1, none⟩ v) B u v := by
  have e1 : (w.setCell ⟨B, 0, none⟩ u).cell? ⟨B, 1, none⟩ = some y := (World.cell?_setCell_other _ _ _ _ (by simp)).trans h.c1
  refine ⟨(World.cell?_setCell_other _ _ _ _ (by simp)).trans (World.cell?_setCell_same _ _ _ h.c0), World.cell?_setCell_same _ _ _ e1, fun j => by rw [World.frozen?_setCell, World.frozen?_setCell]; exact h.fr j, by simpa using h.lt⟩
theorem Box3.set {w : World} {B : Nat} {x y z u v t : Value} (h : Box3 w B x y z) : Box3 (((w.setCell ⟨B, 0, none⟩ u).setCell ⟨B, 1, none⟩ v).setCell ⟨B, 2, none⟩ t) B u v t := by
  have e1 : (w.setCell ⟨B, 0, none⟩ u).cell? ⟨B, 1, none⟩ = some y := (World.cell?_setCell_other _ _ _ _ (by simp)).trans h.c1
  have e2 : ((w.setCell ⟨B, 0, none⟩ u).setCell ⟨B, 1, none⟩ v).cell? ⟨B, 2, none⟩ = some z := (World.cell?_setCell_other _ _ _ _ (by simp)).trans ((World.cell?_setCell_other _ _ _ _ (by simp)).trans h.c2)
  refine ⟨(World.cell?_setCell_other _ _ _ _ (by simp)).trans ((World.cell?_setCell_other _ _ _ _ (by simp)).trans (World.cell?_setCell_same _ _ _ h.c0)), (World.cell?_setCell_other _ _ _ _ (by simp)).trans (World.cell?_setCell_same _ _ _ e1), World.cell?_setCell_same _ _ _ e2, fun j => by rw [World.frozen?_setCell, World.frozen?_setCell, World.frozen?_setCell]; exact h.fr j, by simpa using h.lt⟩
/-- A store into a new box leaves the elder blocks. -/
theorem Box2.more {w0 w : World} {B : Nat} {u v : Value} (h : More w0 w) (hB : w0.heap.size ≤ B) : More w0 ((w.setCell ⟨B, 0, none⟩ u).setCell ⟨B, 1, none⟩ v) := Turns.more (((h.turns []).setCell (.inr hB) _).setCell (.inr hB) _)
theorem Box3.more {w0 w : World} {B : Nat} {u v t : Value} (h : More w0 w) (hB : w0.heap.size ≤ B) : More w0 (((w.setCell ⟨B, 0, none⟩ u).setCell ⟨B, 1, none⟩ v).setCell ⟨B, 2, none⟩ t) := Turns.more ((((h.turns []).setCell (.inr hB) _).setCell (.inr hB) _).setCell (.inr hB) _)
theorem ints_box2 {w : World} {v : Value} {l : List Int} {B : Nat} {b : Bool} {p : Option Addr} {q t : Nat} {c0 c1 : Value} (h : tInts.at w [v] l) (hB : Box2 w B (.bool b) (.slice p q t)) : tInts.at ((w.setCell ⟨B, 0, none⟩ c0).setCell ⟨B, 1, none⟩ c1) [v] l := ints_set2 h hB.c0 hB.c1
theorem ints_box3 {w : World} {v : Value} {l : List Int} {B : Nat} {b : Bool} {p p' : Option Addr} {q t q' t' : Nat} {c0 c1 c2 : Value} (h : tInts.at w [v] l) (hB : Box3 w B (.bool b) (.slice p q t) (.slice p' q' t')) : tInts.at (((w.setCell ⟨B, 0, none⟩ c0).setCell ⟨B, 1, none⟩ c1).setCell ⟨B, 2, none⟩ c2) [v] l := ints_set3 h hB.c0 hB.c1 hB.c2
end Go.Proofs.YtnbefpfijaimjaaGreatDoor
/- Boxes of six cells. It speaks of no program. -/
namespace Go.Proofs.YtnbefpfijaimjaaGreatDoor
open Go.RowKit
structure Box6 (w : World) (B : Nat) (c0 c1 c2 c3 c4 c5 : Value) : Prop where
  e0 : w.cell? ⟨B, 0, none⟩ = some c0
  e1 : w.cell? ⟨B, 1, none⟩ = some c1
  e2 : w.cell? ⟨B, 2, none⟩ = some c2
  e3 : w.cell? ⟨B, 3, none⟩ = some c3
  e4 : w.cell? ⟨B, 4, none⟩ = some c4
  e5 : w.cell? ⟨B, 5, none⟩ = some c5
  fr : ∀ j, w.frozen? ⟨B, j, none⟩ = false
  lt : B < w.heap.size
theorem Box6.keep {w w' : World} {B : Nat} {c0 c1 c2 c3 c4 c5 : Value} (h : Box6 w B c0 c1 c2 c3 c4 c5) (hm : More w w') : Box6 w' B c0 c1 c2 c3 c4 c5 :=
  ⟨box_keep hm h.lt h.e0, box_keep hm h.lt h.e1, box_keep hm h.lt h.e2, box_keep hm h.lt h.e3, box_keep hm h.lt h.e4, box_keep hm h.lt h.e5, fun j => free_keep hm h.lt (h.fr j), Nat.lt_of_lt_of_le h.lt hm.size⟩
theorem Box6.turn {w w' : World} {B : Nat} {bs : List Nat} {c0 c1 c2 c3 c4 c5 : Value} (h : Box6 w B c0 c1 c2 c3 c4 c5) (ht : Turns bs w w') (hb : B ∉ bs) : w'.cell? ⟨B, 0, none⟩ = some c0 ∧ w'.cell? ⟨B, 1, none⟩ = some c1 ∧ w'.cell? ⟨B, 2, none⟩ = some c2 ∧ w'.cell? ⟨B, 3, none⟩ = some c3 ∧ w'.cell? ⟨B, 4, none⟩ = some c4 ∧ w'.cell? ⟨B, 5, none⟩ = some c5 :=
  ⟨cell_heap h.e0 (ht.block _ h.lt hb), cell_heap h.e1 (ht.block _ h.lt hb), cell_heap h.e2 (ht.block _ h.lt hb), cell_heap h.e3 (ht.block _ h.lt hb), cell_heap h.e4 (ht.block _ h.lt hb), cell_heap h.e5 (ht.block _ h.lt hb)⟩
end Go.Proofs.YtnbefpfijaimjaaGreatDoor
