/- Fractions in memory; the small functions under ratMake. -/
import Derived.Test.YtnbefpfijaimjaaGreatDoorBig2
import Derived.Test.YtnbefpfijaimjaaGreatDoorGNum
namespace Go.Proofs.YtnbefpfijaimjaaGreatDoor
open Go.RowKit
/-- u and v are the limbs of a fraction's upper and lower number. -/
def RatAt (w : World) (f : Fr) (u v : Value) : Prop := tInts.at w [u] (limbs f.1.natAbs) ∧ tInts.at w [v] (limbs f.2)
/-- .. in new memory. -/
def RatFr (B : Nat) (w : World) (f : Fr) (u v : Value) : Prop := tRat.fresh B w [.bool (decide (f.1 < 0)), u, v] (encR f)
theorem RatAt.more {w w' : World} {f : Fr} {u v : Value} (h : RatAt w f u v) (hm : More w w') : RatAt w' f u v := ⟨Ty.at_more h.1 hm, Ty.at_more h.2 hm⟩
theorem sh_bools {w : World} {b : Bool} {x : Bool} (h : tBool.at w [.bool b] x) : x = b := by have := sh_bool h; simpa using this.symm
theorem rat_split {w : World} {b : Bool} {u v : Value} {x : QR} (h : tRat.at w [.bool b, u, v] x) : x.1.1 = b ∧ tInts.at w [u] x.1.2 ∧ tInts.at w [v] x.2 := by
  obtain ⟨c0, d0, e0, f0, g0⟩ := at_prod h
  obtain ⟨c1, d1, rfl, f1, g1⟩ := at_prod f0
  obtain ⟨a1, n1, p1, rfl⟩ := sh_slice g1
  obtain ⟨a2, n2, p2, rfl⟩ := sh_slice g0
  obtain rfl := sh_bool f1
  simp at e0
  obtain ⟨e1, rfl, rfl⟩ := e0
  exact ⟨e1.symm, g1, g0⟩
theorem rat_join {w : World} {b : Bool} {u v : Value} {x : QR} (h : x.1.1 = b) (hu : tInts.at w [u] x.1.2) (hv : tInts.at w [v] x.2) : tRat.at w [.bool b, u, v] x := by
  subst h
  exact prod_at (x := x.1) (y := x.2) (c1 := [.bool x.1.1, u]) (c2 := [v]) (prod_at (x := x.1.1) (y := x.1.2) (c1 := [.bool x.1.1]) (c2 := [u]) rfl hu) hv
theorem RatAt.of {w : World} {b : Bool} {u v : Value} {f : Fr} (h : tRat.at w [.bool b, u, v] (encR f)) : decide (f.1 < 0) = b ∧ RatAt w f u v := by
  obtain ⟨h1, h2, h3⟩ := rat_split h
  exact ⟨h1, h2, h3⟩
theorem RatAt.out {w : World} {u v : Value} {f : Fr} (h : RatAt w f u v) : tRat.at w [.bool (decide (f.1 < 0)), u, v] (encR f) := rat_join rfl h.1 h.2
theorem RatFr.at {B : Nat} {w : World} {f : Fr} {u v : Value} (h : RatFr B w f u v) : RatAt w f u v := (RatAt.of (Ty.fresh_at h)).2
theorem RatFr.more {B : Nat} {w w' : World} {f : Fr} {u v : Value} (h : RatFr B w f u v) (hm : More w w') : RatFr B w' f u v := Ty.fresh_more h hm
theorem RatFr.mono {B B' : Nat} {w : World} {f : Fr} {u v : Value} (h : RatFr B w f u v) (hb : B' ≤ B) : RatFr B' w f u v := Ty.fresh_mono h hb
theorem RatFr.turns {B : Nat} {bs : List Nat} {w w' : World} {f : Fr} {u v : Value} (h : RatFr B w f u v) (hb : Turns bs w w') (hk : ∀ k ∈ bs, k < B) : RatFr B w' f u v := Ty.fresh_turns h hb hk
theorem RatFr.zero {B : Nat} {w : World} : RatFr B w (0, 0) (.slice none 0 0) (.slice none 0 0) := by
  have h0 : tInts.fresh B w [.slice none 0 0] [] := nil_fresh
  exact ⟨[], by
    refine ⟨[], [], [.bool false, .slice none 0 0], [.slice none 0 0], rfl, rfl, ⟨[], [], [.bool false], [.slice none 0 0], rfl, rfl, ⟨rfl, rfl⟩, ?_⟩, ?_⟩ <;> exact ⟨none, 0, rfl, by simp [limbs_zero, encZ, encR], by simp, fun _ => rfl, .inl ⟨by simp [limbs_zero, encZ, encR], rfl⟩⟩, by simp, by simp⟩
theorem RatAt.sh {w : World} {u v : Value} {f : Fr} (h : RatAt w f u v) : ∃ a n c a' n' c', u = .slice a n c ∧ v = .slice a' n' c' := by
  obtain ⟨a, n, c, h1⟩ := sh1 h.1
  obtain ⟨a', n', c', h2⟩ := sh1 h.2
  exact ⟨a, n, c, a', n', c', h1, h2⟩
theorem RatAt.shL {w : World} {u v : Value} {f : Fr} (h : RatAt w f u v) : ∃ a n c a' n' c', u = .slice a n c ∧ v = .slice a' n' c' ∧ n = (limbs f.1.natAbs).length ∧ n' = (limbs f.2).length := by
  obtain ⟨a, c, h1⟩ := sl_len h.1
  obtain ⟨a', c', h2⟩ := sl_len h.2
  exact ⟨a, _, c, a', _, c', h1, h2, rfl, rfl⟩
theorem RatAt.set2 {w : World} {f : Fr} {x y : Value} {r : Nat} {b : Bool} {p : Option Addr} {q t : Nat} {c0 c1 : Value} (h : RatAt w f x y) (h0 : w.cell? ⟨r, 0, none⟩ = some (.bool b)) (h1 : w.cell? ⟨r, 1, none⟩ = some (.slice p q t)) :
    RatAt ((w.setCell ⟨r, 0, none⟩ c0).setCell ⟨r, 1, none⟩ c1) f x y := ⟨ints_set2 h.1 h0 h1, ints_set2 h.2 h0 h1⟩
theorem RatAt.set3 {w : World} {f : Fr} {x y : Value} {r : Nat} {b : Bool} {p p' : Option Addr} {q t q' t' : Nat} {c0 c1 c2 : Value} (h : RatAt w f x y) (h0 : w.cell? ⟨r, 0, none⟩ = some (.bool b)) (h1 : w.cell? ⟨r, 1, none⟩ = some (.slice p q t)) (h2 : w.cell? ⟨r, 2, none⟩ = some (.slice p' q' t')) :
    RatAt (((w.setCell ⟨r, 0, none⟩ c0).setCell ⟨r, 1, none⟩ c1).setCell ⟨r, 2, none⟩ c2) f x y := ⟨ints_set3 h.1 h0 h1 h2, ints_set3 h.2 h0 h1 h2⟩
theorem limbs_len1 {m : Nat} (h : (limbs m).length ≠ 1) : m ≠ 1 := fun e => h (by rw [e, limbs_1]; rfl)
theorem impl_isOne (v : Value) (m : Nat) (w : World) (hv : tInts.at w [v] (limbs m)) :
    Calls Tryz.prog 64 #[v] w fun e w' => e = .returned (.bool (decide (m = 1))) ∧ More w w' := by
  obtain ⟨ao, cap, rfl⟩ := sl_len hv
  have HV := Lib.hid hv; clear hv
  obtain ⟨n, hn⟩ : ∃ n, n = (limbs m).length := ⟨_, rfl⟩
  rw [← hn] at HV ⊢
  have HN := Lib.hid hn; clear hn
  by_cases h : n = 1
  · subst h
    have hB : m < 1000000000 := limbs1_lt (by rw [← HN.out]; exact Nat.le_refl _)
    have hm0 : m ≠ 0 := fun e => by have := HN.out; rw [e, limbs_zero] at this; simp at this
    obtain ⟨px, offx, z, rfl, hbltx, hxx, -, ccx⟩ := int_el HV.out (k := 0) (by rw [← HN.out]; omega)
    have hzm : z = (m : Int) := by
      rw [limbs_one hm0 hB] at hxx
      simpa using hxx.symm
    subst hzm
    clear hxx hm0 hB
    rw [Nat.add_zero] at ccx
    by_cases h1 : m = 1
    · subst h1
      go_enter Tryz.func64, Tryz.ntmps64
      go_wp2_with fail
      go_ret
      exact ⟨rfl, mC⟩
    · have h1' : ((m : Int) == 1) = false := by simp; omega
      rw [decide_eq_false h1]
      go_enter Tryz.func64, Tryz.ntmps64
      go_wp2_with fail
      go_ret
      exact ⟨rfl, mC⟩
  · have h' : ((n : Int) == 1) = false := by simp; omega
    rw [decide_eq_false (limbs_len1 (by rw [← HN.out]; exact h))]
    go_enter Tryz.func64, Tryz.ntmps64
    go_wp2_with fail
    go_ret
    exact ⟨rfl, mC⟩
theorem spec_l04One (v : Value) (m : Nat) (w : World) (hv : tInts.at w [v] (limbs m)) :
    Calls Tryz.prog 81 #[v] w fun e w' => e = .returned (.bool (decide (m = 1))) ∧ More w w' := by
  obtain ⟨ao, cap, rfl⟩ := sl_len hv
  have HV := Lib.hid hv; clear hv
  obtain ⟨n, hn⟩ : ∃ n, n = (limbs m).length := ⟨_, rfl⟩
  rw [← hn] at HV ⊢
  have HN := Lib.hid hn; clear hn
  by_cases h : n = 1
  · subst h
    have hB : m < 1000000000 := limbs1_lt (by rw [← HN.out]; exact Nat.le_refl _)
    have hm0 : m ≠ 0 := fun e => by have := HN.out; rw [e, limbs_zero] at this; simp at this
    obtain ⟨px, offx, z, rfl, hbltx, hxx, -, ccx⟩ := int_el HV.out (k := 0) (by rw [← HN.out]; omega)
    have hzm : z = (m : Int) := by
      rw [limbs_one hm0 hB] at hxx
      simpa using hxx.symm
    subst hzm
    clear hxx hm0 hB
    rw [Nat.add_zero] at ccx
    by_cases h1 : m = 1
    · subst h1
      go_enter Tryz.func81, Tryz.ntmps81
      go_wp2_with fail
      go_ret
      exact ⟨rfl, mC⟩
    · have h1' : ((m : Int) == 1) = false := by simp; omega
      rw [decide_eq_false h1]
      go_enter Tryz.func81, Tryz.ntmps81
      go_wp2_with fail
      go_ret
      exact ⟨rfl, mC⟩
  · have h' : ((n : Int) == 1) = false := by simp; omega
    rw [decide_eq_false (limbs_len1 (by rw [← HN.out]; exact h))]
    go_enter Tryz.func81, Tryz.ntmps81
    go_wp2_with fail
    go_ret
    exact ⟨rfl, mC⟩
theorem impl_isGood (b : Bool) (f : Fr) (u v : Value) (w : World) (h : RatAt w f u v) :
    Calls Tryz.prog 104 #[.agg #[.bool b, u, v]] w fun e w' => e = .returned (.bool (decide (f.2 ≠ 0))) ∧ More w w' := by
  obtain ⟨a, n, c, a', n', c', rfl, rfl, h1, h2⟩ := h.shL
  have HN : Hid (n' = (limbs f.2).length) := Lib.hid h2
  clear h h1 h2
  by_cases h0 : 0 < n'
  · have h0' : (0 : Int) < (n' : Int) := by omega
    have hf : f.2 ≠ 0 := limbs_len_pos.1 (by rw [← HN.out]; exact h0)
    rw [decide_eq_true hf]
    go_enter Tryz.func104, Tryz.ntmps104
    go_wp2_with fail
    go_ret
    exact ⟨rfl, mC⟩
  · have h0' : ¬ (0 : Int) < (n' : Int) := by omega
    have hf : ¬ f.2 ≠ 0 := fun k => h0 (by rw [HN.out]; exact limbs_len_pos.2 k)
    rw [decide_eq_false hf]
    go_enter Tryz.func104, Tryz.ntmps104
    go_wp2_with fail
    go_ret
    exact ⟨rfl, mC⟩
set_option maxHeartbeats 3200000 in
theorem impl_ownBig (s : Bool) (v : Value) (m : Nat) (w : World) (hv : tInts.at w [v] (limbs m)) (hl : (limbs m).length ≤ 60) :
    Calls Tryz.prog 144 #[.agg #[.bool s, v]] w fun e w' => ∃ u, e = .returned (.agg #[.bool s, u]) ∧ More w w' ∧ tInts.fresh w.heap.size w' [u] (limbs m) := by
  obtain ⟨ao, cap, rfl⟩ := sl_len hv
  have HV := Lib.hid hv; have HL := Lib.hid hl; clear hv
  obtain ⟨n, hn⟩ : ∃ n, n = (limbs m).length := ⟨_, rfl⟩
  rw [← hn] at HV hl ⊢
  have HN := Lib.hid hn; clear hn
  have h' : ¬ (60 : Int) < (n : Int) := by omega
  have HC : ∀ w', Turns [w.heap.size + 1] ((w.alloc (.cells #[.bool s, .slice ao n cap] 24)).alloc (.cells #[.bool false, .slice none 0 0] 24)) w' → w'.cell? ⟨w.heap.size, 0, none⟩ = some (.bool s) ∧ w'.cell? ⟨w.heap.size, 1, none⟩ = some (.slice ao n cap) := fun w' h => ⟨cell_heap (box_new (by simp) (More.un (More.refl _)) 0) (h.block _ (by simp <;> omega) (by simp <;> omega)), cell_heap (box_new (by simp) (More.un (More.refl _)) 1) (h.block _ (by simp <;> omega) (by simp <;> omega))⟩
  have HX : More ((w.alloc (.cells #[.bool s, .slice ao n cap] 24)).alloc (.cells #[.bool false, .slice none 0 0] 24)) ((w.alloc (.cells #[.bool s, .slice ao n cap] 24)).alloc (.cells #[.bool false, .slice none 0 0] 24)) := More.refl _
  have HB : ∀ w', More ((w.alloc (.cells #[.bool s, .slice ao n cap] 24)).alloc (.cells #[.bool false, .slice none 0 0] 24)) w' → w'.cell? ⟨w.heap.size, 0, none⟩ = some (.bool s) ∧ w'.cell? ⟨w.heap.size, 1, none⟩ = some (.slice ao n cap) ∧ (∀ j, w'.frozen? ⟨w.heap.size, j, none⟩ = false) ∧ w'.cell? ⟨w.heap.size + 1, 0, none⟩ = some (.bool false) ∧ w'.cell? ⟨w.heap.size + 1, 1, none⟩ = some (.slice none 0 0) ∧ (∀ j, w'.frozen? ⟨w.heap.size + 1, j, none⟩ = false) := fun w' h => ⟨box_new (by simp) (More.un h) 0, box_new (by simp) (More.un h) 1, fun j => box_free (by simp) (More.un h) j, box_new (by simp) h 0, box_new (by simp) h 1, fun j => box_free (by simp) h j⟩
  go_enter Tryz.func144, Tryz.ntmps144
  go_wp2_with fail
  go_region_held3 (fun w' => Turns [w.heap.size + 1] ((w.alloc (.cells #[.bool s, .slice ao n cap] 24)).alloc (.cells #[.bool false, .slice none 0 0] 24)) w') (first | exact tC | exact mC2) (first | (go_at_call 145; refine (clone_ints _ (limbs m) _ (Ty.at_more HV.out mC) (by have := HL.out; omega)).mono ?_; rintro e w1 ⟨u, rfl, hb1, g1⟩; obtain ⟨ua, un, uc, rfl⟩ := sh1 (Ty.fresh_at g1); have G1 := Lib.hid g1; clear g1; have HX1 : More ((w.alloc (.cells #[.bool s, .slice ao n cap] 24)).alloc (.cells #[.bool false, .slice none 0 0] 24)) w1 := mC; have HB1 := HB _ HX1; have hz1 := More.size HX1; (try simp at hz1); have hb1 := hb1))
  all_goals
    go_wp2_with fail
    refine bodyPost_ret (v := .agg #[.bool s, .slice ua un uc]) ?_ rfl ?_
    · simp [results, Tryz.results144, go_sem, *]
    · exact ⟨_, rfl, mC2, Ty.fresh_mono (Ty.fresh_turns (bs := [w.heap.size + 1]) G1.out tC (by simp)) (by simp <;> omega)⟩
set_option maxHeartbeats 6400000 in
theorem spec_l03Add (s s' : Bool) (v v' : Value) (m m' : Nat) (w : World) (hv : tInts.at w [v] (limbs m)) (hv' : tInts.at w [v'] (limbs m')) (hl : (limbs m).length ≤ 55) (hm : (limbs m').length ≤ 55) :
    Calls Tryz.prog 126 #[.agg #[.bool s, v], .agg #[.bool s', v']] w fun e w' => ∃ u, e = .returned (.agg #[.bool (decide (sgn s m + sgn s' m' < 0)), u]) ∧ More w w' ∧ tInts.at w' [u] (limbs (sgn s m + sgn s' m').natAbs) := by
  obtain ⟨ao, cap, rfl⟩ := sl_len hv
  obtain ⟨ao', cap', rfl⟩ := sl_len hv'
  have HV := Lib.hid hv; have HV' := Lib.hid hv'; have HL := Lib.hid hl; have HM := Lib.hid hm; clear hv hv' hl hm
  obtain ⟨n, hn⟩ : ∃ n, n = (limbs m).length := ⟨_, rfl⟩
  obtain ⟨n', hn'⟩ : ∃ n, n = (limbs m').length := ⟨_, rfl⟩
  rw [← hn] at HV HL ⊢
  rw [← hn'] at HV' HM ⊢
  have HN := Lib.hid hn; have HN' := Lib.hid hn'; clear hn hn'
  by_cases hs : s = s'
  · subst hs
    have HRL : Hid ((limbs (m + m')).length ≤ 60) := Lib.hid (by have h1 := limbs_len_add m m'; have h2 := HN.out; have h3 := HN'.out; have h4 := HL.out; have h5 := HM.out; omega)
    rw [sgn_same, natAbs_sgn]
    have HC : ∀ w', Turns [w.heap.size + 1 + 1] (((w.alloc (.cells #[.bool s, .slice ao n cap] 24)).alloc (.cells #[.bool s, .slice ao' n' cap'] 24)).alloc (.cells #[.bool false, .slice none 0 0] 24)) w' → w'.cell? ⟨w.heap.size, 0, none⟩ = some (.bool s) ∧ w'.cell? ⟨w.heap.size, 1, none⟩ = some (.slice ao n cap) ∧ w'.cell? ⟨w.heap.size + 1, 0, none⟩ = some (.bool s) ∧ w'.cell? ⟨w.heap.size + 1, 1, none⟩ = some (.slice ao' n' cap') := fun w' h => ⟨cell_heap (box_new (by simp) (More.un (More.un (More.refl _))) 0) (h.block _ (by simp <;> omega) (by simp <;> omega)), cell_heap (box_new (by simp) (More.un (More.un (More.refl _))) 1) (h.block _ (by simp <;> omega) (by simp <;> omega)), cell_heap (box_new (by simp) (More.un (More.refl _)) 0) (h.block _ (by simp <;> omega) (by simp <;> omega)), cell_heap (box_new (by simp) (More.un (More.refl _)) 1) (h.block _ (by simp <;> omega) (by simp <;> omega))⟩
    have HX : More (((w.alloc (.cells #[.bool s, .slice ao n cap] 24)).alloc (.cells #[.bool s, .slice ao' n' cap'] 24)).alloc (.cells #[.bool false, .slice none 0 0] 24)) (((w.alloc (.cells #[.bool s, .slice ao n cap] 24)).alloc (.cells #[.bool s, .slice ao' n' cap'] 24)).alloc (.cells #[.bool false, .slice none 0 0] 24)) := More.refl _
    have HB : ∀ w', More (((w.alloc (.cells #[.bool s, .slice ao n cap] 24)).alloc (.cells #[.bool s, .slice ao' n' cap'] 24)).alloc (.cells #[.bool false, .slice none 0 0] 24)) w' → w'.cell? ⟨w.heap.size, 0, none⟩ = some (.bool s) ∧ w'.cell? ⟨w.heap.size, 1, none⟩ = some (.slice ao n cap) ∧ (∀ j, w'.frozen? ⟨w.heap.size, j, none⟩ = false) ∧ w'.cell? ⟨w.heap.size + 1, 0, none⟩ = some (.bool s) ∧ w'.cell? ⟨w.heap.size + 1, 1, none⟩ = some (.slice ao' n' cap') ∧ (∀ j, w'.frozen? ⟨w.heap.size + 1, j, none⟩ = false) ∧ w'.cell? ⟨w.heap.size + 1 + 1, 0, none⟩ = some (.bool false) ∧ w'.cell? ⟨w.heap.size + 1 + 1, 1, none⟩ = some (.slice none 0 0) ∧ (∀ j, w'.frozen? ⟨w.heap.size + 1 + 1, j, none⟩ = false) := fun w' h => ⟨box_new (by simp) (More.un (More.un h)) 0, box_new (by simp) (More.un (More.un h)) 1, fun j => box_free (by simp) (More.un (More.un h)) j, box_new (by simp) (More.un h) 0, box_new (by simp) (More.un h) 1, fun j => box_free (by simp) (More.un h) j, box_new (by simp) h 0, box_new (by simp) h 1, fun j => box_free (by simp) h j⟩
    go_enter Tryz.func126, Tryz.ntmps126
    go_wp2_with fail
    go_region_held3 (fun w' => Turns [w.heap.size + 1 + 1] (((w.alloc (.cells #[.bool s, .slice ao n cap] 24)).alloc (.cells #[.bool s, .slice ao' n' cap'] 24)).alloc (.cells #[.bool false, .slice none 0 0] 24)) w') (first | exact tC | exact mC2) (first | (go_at_call 158; refine (spec_l02Add _ _ m m' _ (Ty.at_more HV.out mC) (Ty.at_more HV'.out mC) (by rw [← HN.out]; have := HL.out; omega) (by rw [← HN'.out]; have := HM.out; omega)).mono ?_; rintro e w1 ⟨u, rfl, hb1, g1⟩; obtain ⟨ua, un, uc, rfl⟩ := sh1 g1; have G1 := Lib.hid g1; clear g1; have HX1 : More (((w.alloc (.cells #[.bool s, .slice ao n cap] 24)).alloc (.cells #[.bool s, .slice ao' n' cap'] 24)).alloc (.cells #[.bool false, .slice none 0 0] 24)) w1 := mC; have HB1 := HB _ HX1; have hz1 := More.size HX1; (try simp at hz1); have hb1 := hb1) | (go_at_call 128; refine (spec_l03Make _ _ (m + m') _ (Ty.at_more G1.out mC) HRL.out).mono ?_; rintro e w2 ⟨u3, rfl, hb2, f3⟩; obtain ⟨ub, um, ud, rfl⟩ := sh1 (Ty.fresh_at f3); have F3 := Lib.hid f3; clear f3; have HX2 : More (((w.alloc (.cells #[.bool s, .slice ao n cap] 24)).alloc (.cells #[.bool s, .slice ao' n' cap'] 24)).alloc (.cells #[.bool false, .slice none 0 0] 24)) w2 := mC; have HB2 := HB _ HX2; have hz2 := More.size HX2; (try simp at hz2); have hb2 := hb2))
    all_goals
      go_wp2_with fail
      refine bodyPost_ret (v := .agg #[.bool (decide (sgn (s) (m + m') < 0)), .slice ub um ud]) ?_ rfl ?_
      · simp [results, Tryz.results126, go_sem, *]
      · exact ⟨_, rfl, mC2, ints_set2 (Ty.at_more (Ty.fresh_at F3.out) mC) (HB _ HX2).2.2.2.2.2.2.1 (HB _ HX2).2.2.2.2.2.2.2.1⟩
  have hs2 : s' = !s := by cases s <;> cases s' <;> simp at hs <;> rfl
  subst hs2
  obtain ⟨c, ec⟩ : ∃ c, cmpI (m : Int) (m' : Int) = c := ⟨_, rfl⟩
  have EC := Lib.hid ec
  by_cases hle : m' ≤ m
  · have HLE := Lib.hid hle
    have HRL : Hid ((limbs (m - m')).length ≤ 60) := Lib.hid (by have h1 := limbs_len_mono (Nat.sub_le m m'); have h2 := HN.out; have h4 := HL.out; omega)
    have hc : 0 ≤ c := by rw [← ec]; exact Int.not_lt.1 (fun h => by have := cmpI_neg.1 h; omega)
    clear ec
    rw [sgn_diff _ HLE.out, natAbs_sgn]
    have HC : ∀ w', Turns [w.heap.size + 1 + 1] (((w.alloc (.cells #[.bool s, .slice ao n cap] 24)).alloc (.cells #[.bool !s, .slice ao' n' cap'] 24)).alloc (.cells #[.bool false, .slice none 0 0] 24)) w' → w'.cell? ⟨w.heap.size, 0, none⟩ = some (.bool s) ∧ w'.cell? ⟨w.heap.size, 1, none⟩ = some (.slice ao n cap) ∧ w'.cell? ⟨w.heap.size + 1, 0, none⟩ = some (.bool !s) ∧ w'.cell? ⟨w.heap.size + 1, 1, none⟩ = some (.slice ao' n' cap') := fun w' h => ⟨cell_heap (box_new (by simp) (More.un (More.un (More.refl _))) 0) (h.block _ (by simp <;> omega) (by simp <;> omega)), cell_heap (box_new (by simp) (More.un (More.un (More.refl _))) 1) (h.block _ (by simp <;> omega) (by simp <;> omega)), cell_heap (box_new (by simp) (More.un (More.refl _)) 0) (h.block _ (by simp <;> omega) (by simp <;> omega)), cell_heap (box_new (by simp) (More.un (More.refl _)) 1) (h.block _ (by simp <;> omega) (by simp <;> omega))⟩
    have HX : More (((w.alloc (.cells #[.bool s, .slice ao n cap] 24)).alloc (.cells #[.bool !s, .slice ao' n' cap'] 24)).alloc (.cells #[.bool false, .slice none 0 0] 24)) (((w.alloc (.cells #[.bool s, .slice ao n cap] 24)).alloc (.cells #[.bool !s, .slice ao' n' cap'] 24)).alloc (.cells #[.bool false, .slice none 0 0] 24)) := More.refl _
    have HB : ∀ w', More (((w.alloc (.cells #[.bool s, .slice ao n cap] 24)).alloc (.cells #[.bool !s, .slice ao' n' cap'] 24)).alloc (.cells #[.bool false, .slice none 0 0] 24)) w' → w'.cell? ⟨w.heap.size, 0, none⟩ = some (.bool s) ∧ w'.cell? ⟨w.heap.size, 1, none⟩ = some (.slice ao n cap) ∧ (∀ j, w'.frozen? ⟨w.heap.size, j, none⟩ = false) ∧ w'.cell? ⟨w.heap.size + 1, 0, none⟩ = some (.bool !s) ∧ w'.cell? ⟨w.heap.size + 1, 1, none⟩ = some (.slice ao' n' cap') ∧ (∀ j, w'.frozen? ⟨w.heap.size + 1, j, none⟩ = false) ∧ w'.cell? ⟨w.heap.size + 1 + 1, 0, none⟩ = some (.bool false) ∧ w'.cell? ⟨w.heap.size + 1 + 1, 1, none⟩ = some (.slice none 0 0) ∧ (∀ j, w'.frozen? ⟨w.heap.size + 1 + 1, j, none⟩ = false) := fun w' h => ⟨box_new (by simp) (More.un (More.un h)) 0, box_new (by simp) (More.un (More.un h)) 1, fun j => box_free (by simp) (More.un (More.un h)) j, box_new (by simp) (More.un h) 0, box_new (by simp) (More.un h) 1, fun j => box_free (by simp) (More.un h) j, box_new (by simp) h 0, box_new (by simp) h 1, fun j => box_free (by simp) h j⟩
    go_enter Tryz.func126, Tryz.ntmps126
    go_wp2_with (go_at_call 159; refine (spec_l02Cmp _ _ m m' _ (Ty.at_more HV.out mC) (Ty.at_more HV'.out mC) (by rw [← HN.out]; have := HL.out; omega) (by rw [← HN'.out]; have := HM.out; omega)).mono ?_; rintro e w0 ⟨rfl, hb0⟩; have HX0 : More (((w.alloc (.cells #[.bool s, .slice ao n cap] 24)).alloc (.cells #[.bool !s, .slice ao' n' cap'] 24)).alloc (.cells #[.bool false, .slice none 0 0] 24)) w0 := mC; have HB0 := HB _ HX0; have hz0 := More.size HX0; (try simp at hz0); have hb0 := hb0; rw [EC.out])
    go_region_held3 (fun w' => Turns [w.heap.size + 1 + 1] (((w.alloc (.cells #[.bool s, .slice ao n cap] 24)).alloc (.cells #[.bool !s, .slice ao' n' cap'] 24)).alloc (.cells #[.bool false, .slice none 0 0] 24)) w') (first | exact tC | exact mC2) (first | (go_at_call 160; refine (spec_l02Sub _ _ m m' _ (Ty.at_more HV.out mC) (Ty.at_more HV'.out mC) (by rw [← HN.out]; have := HL.out; omega) (by rw [← HN'.out]; have := HM.out; omega) HLE.out).mono ?_; rintro e w1 ⟨u, rfl, hb1, g1⟩; obtain ⟨ua, un, uc, rfl⟩ := sh1 g1; have G1 := Lib.hid g1; clear g1; have HX1 : More (((w.alloc (.cells #[.bool s, .slice ao n cap] 24)).alloc (.cells #[.bool !s, .slice ao' n' cap'] 24)).alloc (.cells #[.bool false, .slice none 0 0] 24)) w1 := mC; have HB1 := HB _ HX1; have hz1 := More.size HX1; (try simp at hz1); have hb1 := hb1) | (go_at_call 128; refine (spec_l03Make _ _ (m - m') _ (Ty.at_more G1.out mC) HRL.out).mono ?_; rintro e w2 ⟨u3, rfl, hb2, f3⟩; obtain ⟨ub, um, ud, rfl⟩ := sh1 (Ty.fresh_at f3); have F3 := Lib.hid f3; clear f3; have HX2 : More (((w.alloc (.cells #[.bool s, .slice ao n cap] 24)).alloc (.cells #[.bool !s, .slice ao' n' cap'] 24)).alloc (.cells #[.bool false, .slice none 0 0] 24)) w2 := mC; have HB2 := HB _ HX2; have hz2 := More.size HX2; (try simp at hz2); have hb2 := hb2))
    all_goals
      go_wp2_with fail
      refine bodyPost_ret (v := .agg #[.bool (decide (sgn (s) (m - m') < 0)), .slice ub um ud]) ?_ rfl ?_
      · simp [results, Tryz.results126, go_sem, *]
      · exact ⟨_, rfl, mC2, ints_set2 (Ty.at_more (Ty.fresh_at F3.out) mC) (HB _ HX2).2.2.2.2.2.2.1 (HB _ HX2).2.2.2.2.2.2.2.1⟩
  · have HLE : Hid (m ≤ m') := Lib.hid (by omega)
    have HRL : Hid ((limbs (m' - m)).length ≤ 60) := Lib.hid (by have h1 := limbs_len_mono (Nat.sub_le m' m); have h2 := HN'.out; have h4 := HM.out; omega)
    have hc : ¬ 0 ≤ c := by rw [← ec]; have := cmpI_neg (a := (m : Int)) (b := (m' : Int)); omega
    clear ec
    rw [Int.add_comm, show sgn s m = sgn (!!s) m by simp, sgn_diff (!s) HLE.out, natAbs_sgn]
    have HC : ∀ w', Turns [w.heap.size + 1 + 1] (((w.alloc (.cells #[.bool s, .slice ao n cap] 24)).alloc (.cells #[.bool !s, .slice ao' n' cap'] 24)).alloc (.cells #[.bool false, .slice none 0 0] 24)) w' → w'.cell? ⟨w.heap.size, 0, none⟩ = some (.bool s) ∧ w'.cell? ⟨w.heap.size, 1, none⟩ = some (.slice ao n cap) ∧ w'.cell? ⟨w.heap.size + 1, 0, none⟩ = some (.bool !s) ∧ w'.cell? ⟨w.heap.size + 1, 1, none⟩ = some (.slice ao' n' cap') := fun w' h => ⟨cell_heap (box_new (by simp) (More.un (More.un (More.refl _))) 0) (h.block _ (by simp <;> omega) (by simp <;> omega)), cell_heap (box_new (by simp) (More.un (More.un (More.refl _))) 1) (h.block _ (by simp <;> omega) (by simp <;> omega)), cell_heap (box_new (by simp) (More.un (More.refl _)) 0) (h.block _ (by simp <;> omega) (by simp <;> omega)), cell_heap (box_new (by simp) (More.un (More.refl _)) 1) (h.block _ (by simp <;> omega) (by simp <;> omega))⟩
    have HX : More (((w.alloc (.cells #[.bool s, .slice ao n cap] 24)).alloc (.cells #[.bool !s, .slice ao' n' cap'] 24)).alloc (.cells #[.bool false, .slice none 0 0] 24)) (((w.alloc (.cells #[.bool s, .slice ao n cap] 24)).alloc (.cells #[.bool !s, .slice ao' n' cap'] 24)).alloc (.cells #[.bool false, .slice none 0 0] 24)) := More.refl _
    have HB : ∀ w', More (((w.alloc (.cells #[.bool s, .slice ao n cap] 24)).alloc (.cells #[.bool !s, .slice ao' n' cap'] 24)).alloc (.cells #[.bool false, .slice none 0 0] 24)) w' → w'.cell? ⟨w.heap.size, 0, none⟩ = some (.bool s) ∧ w'.cell? ⟨w.heap.size, 1, none⟩ = some (.slice ao n cap) ∧ (∀ j, w'.frozen? ⟨w.heap.size, j, none⟩ = false) ∧ w'.cell? ⟨w.heap.size + 1, 0, none⟩ = some (.bool !s) ∧ w'.cell? ⟨w.heap.size + 1, 1, none⟩ = some (.slice ao' n' cap') ∧ (∀ j, w'.frozen? ⟨w.heap.size + 1, j, none⟩ = false) ∧ w'.cell? ⟨w.heap.size + 1 + 1, 0, none⟩ = some (.bool false) ∧ w'.cell? ⟨w.heap.size + 1 + 1, 1, none⟩ = some (.slice none 0 0) ∧ (∀ j, w'.frozen? ⟨w.heap.size + 1 + 1, j, none⟩ = false) := fun w' h => ⟨box_new (by simp) (More.un (More.un h)) 0, box_new (by simp) (More.un (More.un h)) 1, fun j => box_free (by simp) (More.un (More.un h)) j, box_new (by simp) (More.un h) 0, box_new (by simp) (More.un h) 1, fun j => box_free (by simp) (More.un h) j, box_new (by simp) h 0, box_new (by simp) h 1, fun j => box_free (by simp) h j⟩
    go_enter Tryz.func126, Tryz.ntmps126
    go_wp2_with (go_at_call 159; refine (spec_l02Cmp _ _ m m' _ (Ty.at_more HV.out mC) (Ty.at_more HV'.out mC) (by rw [← HN.out]; have := HL.out; omega) (by rw [← HN'.out]; have := HM.out; omega)).mono ?_; rintro e w0 ⟨rfl, hb0⟩; have HX0 : More (((w.alloc (.cells #[.bool s, .slice ao n cap] 24)).alloc (.cells #[.bool !s, .slice ao' n' cap'] 24)).alloc (.cells #[.bool false, .slice none 0 0] 24)) w0 := mC; have HB0 := HB _ HX0; have hz0 := More.size HX0; (try simp at hz0); have hb0 := hb0; rw [EC.out])
    go_region_held3 (fun w' => Turns [w.heap.size + 1 + 1] (((w.alloc (.cells #[.bool s, .slice ao n cap] 24)).alloc (.cells #[.bool !s, .slice ao' n' cap'] 24)).alloc (.cells #[.bool false, .slice none 0 0] 24)) w') (first | exact tC | exact mC2) (first | (go_at_call 160; refine (spec_l02Sub _ _ m' m _ (Ty.at_more HV'.out mC) (Ty.at_more HV.out mC) (by rw [← HN'.out]; have := HM.out; omega) (by rw [← HN.out]; have := HL.out; omega) HLE.out).mono ?_; rintro e w1 ⟨u, rfl, hb1, g1⟩; obtain ⟨ua, un, uc, rfl⟩ := sh1 g1; have G1 := Lib.hid g1; clear g1; have HX1 : More (((w.alloc (.cells #[.bool s, .slice ao n cap] 24)).alloc (.cells #[.bool !s, .slice ao' n' cap'] 24)).alloc (.cells #[.bool false, .slice none 0 0] 24)) w1 := mC; have HB1 := HB _ HX1; have hz1 := More.size HX1; (try simp at hz1); have hb1 := hb1) | (go_at_call 128; refine (spec_l03Make _ _ (m' - m) _ (Ty.at_more G1.out mC) HRL.out).mono ?_; rintro e w2 ⟨u3, rfl, hb2, f3⟩; obtain ⟨ub, um, ud, rfl⟩ := sh1 (Ty.fresh_at f3); have F3 := Lib.hid f3; clear f3; have HX2 : More (((w.alloc (.cells #[.bool s, .slice ao n cap] 24)).alloc (.cells #[.bool !s, .slice ao' n' cap'] 24)).alloc (.cells #[.bool false, .slice none 0 0] 24)) w2 := mC; have HB2 := HB _ HX2; have hz2 := More.size HX2; (try simp at hz2); have hb2 := hb2))
    all_goals
      go_wp2_with fail
      refine bodyPost_ret (v := .agg #[.bool (decide (sgn (!s) (m' - m) < 0)), .slice ub um ud]) ?_ rfl ?_
      · simp [results, Tryz.results126, go_sem, *]
      · exact ⟨_, rfl, mC2, ints_set2 (Ty.at_more (Ty.fresh_at F3.out) mC) (HB _ HX2).2.2.2.2.2.2.1 (HB _ HX2).2.2.2.2.2.2.2.1⟩
end Go.Proofs.YtnbefpfijaimjaaGreatDoor
