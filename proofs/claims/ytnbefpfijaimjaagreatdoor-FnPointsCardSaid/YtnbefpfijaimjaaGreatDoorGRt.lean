/- Several texts laid together; each has its own word at its head. -/
import Derived.Test.YtnbefpfijaimjaaGreatDoorGBig
import Derived.Test.YtnbefpfijaimjaaGreatDoorGNum
/- Fractions in memory; the small functions under ratMake. -/
namespace Go.Proofs.YtnbefpfijaimjaaGreatDoor
open Go.RowKit
/-- u and v are the limbs of a fraction's upper and lower number. -/
def RatAt (w : World) (f : Fr) (u v : Value) : Prop := tInts.at w [u] (limbs f.1.natAbs) ∧ tInts.at w [v] (limbs f.2)
/-- .. in new memory. -/
def RatFr (B : Nat) (w : World) (f : Fr) (u v : Value) : Prop := tRat.fresh B w [.bool (decide (f.1 < 0)), u, v] (encR f)
theorem RatAt.more {w w' : World} {f : Fr} {u v : Value} (h : RatAt w f u v) (hm : More w w') : RatAt w' f u v := ⟨Ty.at_more h.1 hm, Ty.at_more h.2 hm⟩
theorem sh_bools {w : World} {b : Bool} {x : Bool} (h : tBool.at w [.bool b] x) : x = b := by have := sh_bool h; simpa using this.symm
theorem rat_split {w : World} {b : Bool} {u v : Value} {x : QR} (h : tRat.at w [.bool b, u, v] x) : x.1.1 = b ∧ tInts.at w [u] x.1.2 ∧ tInts.at w [v] x.2 := by
  obtain ⟨c0, d0, e0, f0, g0⟩ := at_prod h
  obtain ⟨c1, d1, rfl, f1, g1⟩ := at_prod f0
  obtain ⟨a1, n1, p1, rfl⟩ := sh_slice g1
  obtain ⟨a2, n2, p2, rfl⟩ := sh_slice g0
  obtain rfl := sh_bool f1
  simp at e0
  obtain ⟨e1, rfl, rfl⟩ := e0
  exact ⟨e1.symm, g1, g0⟩
theorem rat_join {w : World} {b : Bool} {u v : Value} {x : QR} (h : x.1.1 = b) (hu : tInts.at w [u] x.1.2) (hv : tInts.at w [v] x.2) : tRat.at w [.bool b, u, v] x := by
  subst h
  exact prod_at (x := x.1) (y := x.2) (c1 := [.bool x.1.1, u]) (c2 := [v]) (prod_at (x := x.1.1) (y := x.1.2) (c1 := [.bool x.1.1]) (c2 := [u]) rfl hu) hv
theorem RatAt.of {w : World} {b : Bool} {u v : Value} {f : Fr} (h : tRat.at w [.bool b, u, v] (encR f)) : decide (f.1 < 0) = b ∧ RatAt w f u v := by
  obtain ⟨h1, h2, h3⟩ := rat_split h
  exact ⟨h1, h2, h3⟩
theorem RatAt.out {w : World} {u v : Value} {f : Fr} (h : RatAt w f u v) : tRat.at w [.bool (decide (f.1 < 0)), u, v] (encR f) := rat_join rfl h.1 h.2
theorem RatFr.at {B : Nat} {w : World} {f : Fr} {u v : Value} (h : RatFr B w f u v) : RatAt w f u v := (RatAt.of (Ty.fresh_at h)).2
theorem RatFr.more {B : Nat} {w w' : World} {f : Fr} {u v : Value} (h : RatFr B w f u v) (hm : More w w') : RatFr B w' f u v := Ty.fresh_more h hm
theorem RatFr.mono {B B' : Nat} {w : World} {f : Fr} {u v : Value} (h : RatFr B w f u v) (hb : B' ≤ B) : RatFr B' w f u v := Ty.fresh_mono h hb
theorem RatFr.turns {B : Nat} {bs : List Nat} {w w' : World} {f : Fr} {u v : Value} (h : RatFr B w f u v) (hb : Turns bs w w') (hk : ∀ k ∈ bs, k < B) : RatFr B w' f u v := Ty.fresh_turns h hb hk
theorem RatFr.zero {B : Nat} {w : World} : RatFr B w (0, 0) (.slice none 0 0) (.slice none 0 0) := by
  have h0 : tInts.fresh B w [.slice none 0 0] [] := nil_fresh
  exact ⟨[], by
    refine ⟨[], [], [.bool false, .slice none 0 0], [.slice none 0 0], rfl, rfl, ⟨[], [], [.bool false], [.slice none 0 0], rfl, rfl, ⟨rfl, rfl⟩, ?_⟩, ?_⟩ <;> exact ⟨none, 0, rfl, by simp [limbs_zero, encZ, encR], by simp, fun _ => rfl, .inl ⟨by simp [limbs_zero, encZ, encR], rfl⟩⟩, by simp, by simp⟩
theorem RatAt.sh {w : World} {u v : Value} {f : Fr} (h : RatAt w f u v) : ∃ a n c a' n' c', u = .slice a n c ∧ v = .slice a' n' c' := by
  obtain ⟨a, n, c, h1⟩ := sh1 h.1
  obtain ⟨a', n', c', h2⟩ := sh1 h.2
  exact ⟨a, n, c, a', n', c', h1, h2⟩
theorem RatAt.shL {w : World} {u v : Value} {f : Fr} (h : RatAt w f u v) : ∃ a n c a' n' c', u = .slice a n c ∧ v = .slice a' n' c' ∧ n = (limbs f.1.natAbs).length ∧ n' = (limbs f.2).length := by
  obtain ⟨a, c, h1⟩ := sl_len h.1
  obtain ⟨a', c', h2⟩ := sl_len h.2
  exact ⟨a, _, c, a', _, c', h1, h2, rfl, rfl⟩
theorem RatAt.set2 {w : World} {f : Fr} {x y : Value} {r : Nat} {b : Bool} {p : Option Addr} {q t : Nat} {c0 c1 : Value} (h : RatAt w f x y) (h0 : w.cell? ⟨r, 0, none⟩ = some (.bool b)) (h1 : w.cell? ⟨r, 1, none⟩ = some (.slice p q t)) :
    RatAt ((w.setCell ⟨r, 0, none⟩ c0).setCell ⟨r, 1, none⟩ c1) f x y := ⟨ints_set2 h.1 h0 h1, ints_set2 h.2 h0 h1⟩
theorem RatAt.set3 {w : World} {f : Fr} {x y : Value} {r : Nat} {b : Bool} {p p' : Option Addr} {q t q' t' : Nat} {c0 c1 c2 : Value} (h : RatAt w f x y) (h0 : w.cell? ⟨r, 0, none⟩ = some (.bool b)) (h1 : w.cell? ⟨r, 1, none⟩ = some (.slice p q t)) (h2 : w.cell? ⟨r, 2, none⟩ = some (.slice p' q' t')) :
    RatAt (((w.setCell ⟨r, 0, none⟩ c0).setCell ⟨r, 1, none⟩ c1).setCell ⟨r, 2, none⟩ c2) f x y := ⟨ints_set3 h.1 h0 h1 h2, ints_set3 h.2 h0 h1 h2⟩
theorem limbs_len1 {m : Nat} (h : (limbs m).length ≠ 1) : m ≠ 1 := fun e => h (by rw [e, limbs_1]; rfl)
theorem impl_isOne (v : Value) (m : Nat) (w : World) (hv : tInts.at w [v] (limbs m)) :
    Calls Tryz.prog 64 #[v] w fun e w' => e = .returned (.bool (decide (m = 1))) ∧ More w w' := by
  obtain ⟨ao, cap, rfl⟩ := sl_len hv
  have HV := Lib.hid hv; clear hv
  obtain ⟨n, hn⟩ : ∃ n, n = (limbs m).length := ⟨_, rfl⟩
  rw [← hn] at HV ⊢
  have HN := Lib.hid hn; clear hn
  by_cases h : n = 1
  · subst h
    have hB : m < 1000000000 := limbs1_lt (by rw [← HN.out]; exact Nat.le_refl _)
    have hm0 : m ≠ 0 := fun e => by have := HN.out; rw [e, limbs_zero] at this; simp at this
    obtain ⟨px, offx, z, rfl, hbltx, hxx, -, ccx⟩ := int_el HV.out (k := 0) (by rw [← HN.out]; omega)
    have hzm : z = (m : Int) := by
      rw [limbs_one hm0 hB] at hxx
      simpa using hxx.symm
    subst hzm
    clear hxx hm0 hB
    rw [Nat.add_zero] at ccx
    by_cases h1 : m = 1
    · subst h1
      go_enter Tryz.func64, Tryz.ntmps64
      go_wp2_with fail
      go_ret
      exact ⟨rfl, mC⟩
    · have h1' : ((m : Int) == 1) = false := by simp; omega
      rw [decide_eq_false h1]
      go_enter Tryz.func64, Tryz.ntmps64
      go_wp2_with fail
      go_ret
      exact ⟨rfl, mC⟩
  · have h' : ((n : Int) == 1) = false := by simp; omega
    rw [decide_eq_false (limbs_len1 (by rw [← HN.out]; exact h))]
    go_enter Tryz.func64, Tryz.ntmps64
    go_wp2_with fail
    go_ret
    exact ⟨rfl, mC⟩
theorem spec_l04One (v : Value) (m : Nat) (w : World) (hv : tInts.at w [v] (limbs m)) :
    Calls Tryz.prog 81 #[v] w fun e w' => e = .returned (.bool (decide (m = 1))) ∧ More w w' := by
  obtain ⟨ao, cap, rfl⟩ := sl_len hv
  have HV := Lib.hid hv; clear hv
  obtain ⟨n, hn⟩ : ∃ n, n = (limbs m).length := ⟨_, rfl⟩
  rw [← hn] at HV ⊢
  have HN := Lib.hid hn; clear hn
  by_cases h : n = 1
  · subst h
    have hB : m < 1000000000 := limbs1_lt (by rw [← HN.out]; exact Nat.le_refl _)
    have hm0 : m ≠ 0 := fun e => by have := HN.out; rw [e, limbs_zero] at this; simp at this
    obtain ⟨px, offx, z, rfl, hbltx, hxx, -, ccx⟩ := int_el HV.out (k := 0) (by rw [← HN.out]; omega)
    have hzm : z = (m : Int) := by
      rw [limbs_one hm0 hB] at hxx
      simpa using hxx.symm
    subst hzm
    clear hxx hm0 hB
    rw [Nat.add_zero] at ccx
    by_cases h1 : m = 1
    · subst h1
      go_enter Tryz.func81, Tryz.ntmps81
      go_wp2_with fail
      go_ret
      exact ⟨rfl, mC⟩
    · have h1' : ((m : Int) == 1) = false := by simp; omega
      rw [decide_eq_false h1]
      go_enter Tryz.func81, Tryz.ntmps81
      go_wp2_with fail
      go_ret
      exact ⟨rfl, mC⟩
  · have h' : ((n : Int) == 1) = false := by simp; omega
    rw [decide_eq_false (limbs_len1 (by rw [← HN.out]; exact h))]
    go_enter Tryz.func81, Tryz.ntmps81
    go_wp2_with fail
    go_ret
    exact ⟨rfl, mC⟩
theorem impl_isGood (b : Bool) (f : Fr) (u v : Value) (w : World) (h : RatAt w f u v) :
    Calls Tryz.prog 104 #[.agg #[.bool b, u, v]] w fun e w' => e = .returned (.bool (decide (f.2 ≠ 0))) ∧ More w w' := by
  obtain ⟨a, n, c, a', n', c', rfl, rfl, h1, h2⟩ := h.shL
  have HN : Hid (n' = (limbs f.2).length) := Lib.hid h2
  clear h h1 h2
  by_cases h0 : 0 < n'
  · have h0' : (0 : Int) < (n' : Int) := by omega
    have hf : f.2 ≠ 0 := limbs_len_pos.1 (by rw [← HN.out]; exact h0)
    rw [decide_eq_true hf]
    go_enter Tryz.func104, Tryz.ntmps104
    go_wp2_with fail
    go_ret
    exact ⟨rfl, mC⟩
  · have h0' : ¬ (0 : Int) < (n' : Int) := by omega
    have hf : ¬ f.2 ≠ 0 := fun k => h0 (by rw [HN.out]; exact limbs_len_pos.2 k)
    rw [decide_eq_false hf]
    go_enter Tryz.func104, Tryz.ntmps104
    go_wp2_with fail
    go_ret
    exact ⟨rfl, mC⟩
set_option maxHeartbeats 3200000 in
theorem impl_ownBig (s : Bool) (v : Value) (m : Nat) (w : World) (hv : tInts.at w [v] (limbs m)) (hl : (limbs m).length ≤ 60) :
    Calls Tryz.prog 144 #[.agg #[.bool s, v]] w fun e w' => ∃ u, e = .returned (.agg #[.bool s, u]) ∧ More w w' ∧ tInts.fresh w.heap.size w' [u] (limbs m) := by
  obtain ⟨ao, cap, rfl⟩ := sl_len hv
  have HV := Lib.hid hv; have HL := Lib.hid hl; clear hv
  obtain ⟨n, hn⟩ : ∃ n, n = (limbs m).length := ⟨_, rfl⟩
  rw [← hn] at HV hl ⊢
  have HN := Lib.hid hn; clear hn
  have h' : ¬ (60 : Int) < (n : Int) := by omega
  have HC : ∀ w', Turns [w.heap.size + 1] ((w.alloc (.cells #[.bool s, .slice ao n cap] 24)).alloc (.cells #[.bool false, .slice none 0 0] 24)) w' → w'.cell? ⟨w.heap.size, 0, none⟩ = some (.bool s) ∧ w'.cell? ⟨w.heap.size, 1, none⟩ = some (.slice ao n cap) := fun w' h => ⟨cell_heap (box_new (by simp) (More.un (More.refl _)) 0) (h.block _ (by simp <;> omega) (by simp <;> omega)), cell_heap (box_new (by simp) (More.un (More.refl _)) 1) (h.block _ (by simp <;> omega) (by simp <;> omega))⟩
  have HX : More ((w.alloc (.cells #[.bool s, .slice ao n cap] 24)).alloc (.cells #[.bool false, .slice none 0 0] 24)) ((w.alloc (.cells #[.bool s, .slice ao n cap] 24)).alloc (.cells #[.bool false, .slice none 0 0] 24)) := More.refl _
  have HB : ∀ w', More ((w.alloc (.cells #[.bool s, .slice ao n cap] 24)).alloc (.cells #[.bool false, .slice none 0 0] 24)) w' → w'.cell? ⟨w.heap.size, 0, none⟩ = some (.bool s) ∧ w'.cell? ⟨w.heap.size, 1, none⟩ = some (.slice ao n cap) ∧ (∀ j, w'.frozen? ⟨w.heap.size, j, none⟩ = false) ∧ w'.cell? ⟨w.heap.size + 1, 0, none⟩ = some (.bool false) ∧ w'.cell? ⟨w.heap.size + 1, 1, none⟩ = some (.slice none 0 0) ∧ (∀ j, w'.frozen? ⟨w.heap.size + 1, j, none⟩ = false) := fun w' h => ⟨box_new (by simp) (More.un h) 0, box_new (by simp) (More.un h) 1, fun j => box_free (by simp) (More.un h) j, box_new (by simp) h 0, box_new (by simp) h 1, fun j => box_free (by simp) h j⟩
  go_enter Tryz.func144, Tryz.ntmps144
  go_wp2_with fail
  go_region_held3 (fun w' => Turns [w.heap.size + 1] ((w.alloc (.cells #[.bool s, .slice ao n cap] 24)).alloc (.cells #[.bool false, .slice none 0 0] 24)) w') (first | exact tC | exact mC2) (first | (go_at_call 145; refine (clone_ints _ (limbs m) _ (Ty.at_more HV.out mC) (by have := HL.out; omega)).mono ?_; rintro e w1 ⟨u, rfl, hb1, g1⟩; obtain ⟨ua, un, uc, rfl⟩ := sh1 (Ty.fresh_at g1); have G1 := Lib.hid g1; clear g1; have HX1 : More ((w.alloc (.cells #[.bool s, .slice ao n cap] 24)).alloc (.cells #[.bool false, .slice none 0 0] 24)) w1 := mC; have HB1 := HB _ HX1; have hz1 := More.size HX1; (try simp at hz1); have hb1 := hb1))
  all_goals
    go_wp2_with fail
    refine bodyPost_ret (v := .agg #[.bool s, .slice ua un uc]) ?_ rfl ?_
    · simp [results, Tryz.results144, go_sem, *]
    · exact ⟨_, rfl, mC2, Ty.fresh_mono (Ty.fresh_turns (bs := [w.heap.size + 1]) G1.out tC (by simp)) (by simp <;> omega)⟩
set_option maxHeartbeats 6400000 in
theorem spec_l03Add (s s' : Bool) (v v' : Value) (m m' : Nat) (w : World) (hv : tInts.at w [v] (limbs m)) (hv' : tInts.at w [v'] (limbs m')) (hl : (limbs m).length ≤ 55) (hm : (limbs m').length ≤ 55) :
    Calls Tryz.prog 126 #[.agg #[.bool s, v], .agg #[.bool s', v']] w fun e w' => ∃ u, e = .returned (.agg #[.bool (decide (sgn s m + sgn s' m' < 0)), u]) ∧ More w w' ∧ tInts.at w' [u] (limbs (sgn s m + sgn s' m').natAbs) := by
  obtain ⟨ao, cap, rfl⟩ := sl_len hv
  obtain ⟨ao', cap', rfl⟩ := sl_len hv'
  have HV := Lib.hid hv; have HV' := Lib.hid hv'; have HL := Lib.hid hl; have HM := Lib.hid hm; clear hv hv' hl hm
  obtain ⟨n, hn⟩ : ∃ n, n = (limbs m).length := ⟨_, rfl⟩
  obtain ⟨n', hn'⟩ : ∃ n, n = (limbs m').length := ⟨_, rfl⟩
  rw [← hn] at HV HL ⊢
  rw [← hn'] at HV' HM ⊢
  have HN := Lib.hid hn; have HN' := Lib.hid hn'; clear hn hn'
  by_cases hs : s = s'
  · subst hs
    have HRL : Hid ((limbs (m + m')).length ≤ 60) := Lib.hid (by have h1 := limbs_len_add m m'; have h2 := HN.out; have h3 := HN'.out; have h4 := HL.out; have h5 := HM.out; omega)
    rw [sgn_same, natAbs_sgn]
    have HC : ∀ w', Turns [w.heap.size + 1 + 1] (((w.alloc (.cells #[.bool s, .slice ao n cap] 24)).alloc (.cells #[.bool s, .slice ao' n' cap'] 24)).alloc (.cells #[.bool false, .slice none 0 0] 24)) w' → w'.cell? ⟨w.heap.size, 0, none⟩ = some (.bool s) ∧ w'.cell? ⟨w.heap.size, 1, none⟩ = some (.slice ao n cap) ∧ w'.cell? ⟨w.heap.size + 1, 0, none⟩ = some (.bool s) ∧ w'.cell? ⟨w.heap.size + 1, 1, none⟩ = some (.slice ao' n' cap') := fun w' h => ⟨cell_heap (box_new (by simp) (More.un (More.un (More.refl _))) 0) (h.block _ (by simp <;> omega) (by simp <;> omega)), cell_heap (box_new (by simp) (More.un (More.un (More.refl _))) 1) (h.block _ (by simp <;> omega) (by simp <;> omega)), cell_heap (box_new (by simp) (More.un (More.refl _)) 0) (h.block _ (by simp <;> omega) (by simp <;> omega)), cell_heap (box_new (by simp) (More.un (More.refl _)) 1) (h.block _ (by simp <;> omega) (by simp <;> omega))⟩
    have HX : More (((w.alloc (.cells #[.bool s, .slice ao n cap] 24)).alloc (.cells #[.bool s, .slice ao' n' cap'] 24)).alloc (.cells #[.bool false, .slice none 0 0] 24)) (((w.alloc (.cells #[.bool s, .slice ao n cap] 24)).alloc (.cells #[.bool s, .slice ao' n' cap'] 24)).alloc (.cells #[.bool false, .slice none 0 0] 24)) := More.refl _
    have HB : ∀ w', More (((w.alloc (.cells #[.bool s, .slice ao n cap] 24)).alloc (.cells #[.bool s, .slice ao' n' cap'] 24)).alloc (.cells #[.bool false, .slice none 0 0] 24)) w' → w'.cell? ⟨w.heap.size, 0, none⟩ = some (.bool s) ∧ w'.cell? ⟨w.heap.size, 1, none⟩ = some (.slice ao n cap) ∧ (∀ j, w'.frozen? ⟨w.heap.size, j, none⟩ = false) ∧ w'.cell? ⟨w.heap.size + 1, 0, none⟩ = some (.bool s) ∧ w'.cell? ⟨w.heap.size + 1, 1, none⟩ = some (.slice ao' n' cap') ∧ (∀ j, w'.frozen? ⟨w.heap.size + 1, j, none⟩ = false) ∧ w'.cell? ⟨w.heap.size + 1 + 1, 0, none⟩ = some (.bool false) ∧ w'.cell? ⟨w.heap.size + 1 + 1, 1, none⟩ = some (.slice none 0 0) ∧ (∀ j, w'.frozen? ⟨w.heap.size + 1 + 1, j, none⟩ = false) := fun w' h => ⟨box_new (by simp) (More.un (More.un h)) 0, box_new (by simp) (More.un (More.un h)) 1, fun j => box_free (by simp) (More.un (More.un h)) j, box_new (by simp) (More.un h) 0, box_new (by simp) (More.un h) 1, fun j => box_free (by simp) (More.un h) j, box_new (by simp) h 0, box_new (by simp) h 1, fun j => box_free (by simp) h j⟩
    go_enter Tryz.func126, Tryz.ntmps126
    go_wp2_with fail
    go_region_held3 (fun w' => Turns [w.heap.size + 1 + 1] (((w.alloc (.cells #[.bool s, .slice ao n cap] 24)).alloc (.cells #[.bool s, .slice ao' n' cap'] 24)).alloc (.cells #[.bool false, .slice none 0 0] 24)) w') (first | exact tC | exact mC2) (first | (go_at_call 158; refine (spec_l02Add _ _ m m' _ (Ty.at_more HV.out mC) (Ty.at_more HV'.out mC) (by rw [← HN.out]; have := HL.out; omega) (by rw [← HN'.out]; have := HM.out; omega)).mono ?_; rintro e w1 ⟨u, rfl, hb1, g1⟩; obtain ⟨ua, un, uc, rfl⟩ := sh1 g1; have G1 := Lib.hid g1; clear g1; have HX1 : More (((w.alloc (.cells #[.bool s, .slice ao n cap] 24)).alloc (.cells #[.bool s, .slice ao' n' cap'] 24)).alloc (.cells #[.bool false, .slice none 0 0] 24)) w1 := mC; have HB1 := HB _ HX1; have hz1 := More.size HX1; (try simp at hz1); have hb1 := hb1) | (go_at_call 128; refine (spec_l03Make _ _ (m + m') _ (Ty.at_more G1.out mC) HRL.out).mono ?_; rintro e w2 ⟨u3, rfl, hb2, f3⟩; obtain ⟨ub, um, ud, rfl⟩ := sh1 (Ty.fresh_at f3); have F3 := Lib.hid f3; clear f3; have HX2 : More (((w.alloc (.cells #[.bool s, .slice ao n cap] 24)).alloc (.cells #[.bool s, .slice ao' n' cap'] 24)).alloc (.cells #[.bool false, .slice none 0 0] 24)) w2 := mC; have HB2 := HB _ HX2; have hz2 := More.size HX2; (try simp at hz2); have hb2 := hb2))
    all_goals
      go_wp2_with fail
      refine bodyPost_ret (v := .agg #[.bool (decide (sgn (s) (m + m') < 0)), .slice ub um ud]) ?_ rfl ?_
      · simp [results, Tryz.results126, go_sem, *]
      · exact ⟨_, rfl, mC2, ints_set2 (Ty.at_more (Ty.fresh_at F3.out) mC) (HB _ HX2).2.2.2.2.2.2.1 (HB _ HX2).2.2.2.2.2.2.2.1⟩
  have hs2 : s' = !s := by cases s <;> cases s' <;> simp at hs <;> rfl
  subst hs2
  obtain ⟨c, ec⟩ : ∃ c, cmpI (m : Int) (m' : Int) = c := ⟨_, rfl⟩
  have EC := Lib.hid ec
  by_cases hle : m' ≤ m
  · have HLE := Lib.hid hle
    have HRL : Hid ((limbs (m - m')).length ≤ 60) := Lib.hid (by have h1 := limbs_len_mono (Nat.sub_le m m'); have h2 := HN.out; have h4 := HL.out; omega)
    have hc : 0 ≤ c := by rw [← ec]; exact Int.not_lt.1 (fun h => by have := cmpI_neg.1 h; omega)
    clear ec
    rw [sgn_diff _ HLE.out, natAbs_sgn]
    have HC : ∀ w', Turns [w.heap.size + 1 + 1] (((w.alloc (.cells #[.bool s, .slice ao n cap] 24)).alloc (.cells #[.bool !s, .slice ao' n' cap'] 24)).alloc (.cells #[.bool false, .slice none 0 0] 24)) w' → w'.cell? ⟨w.heap.size, 0, none⟩ = some (.bool s) ∧ w'.cell? ⟨w.heap.size, 1, none⟩ = some (.slice ao n cap) ∧ w'.cell? ⟨w.heap.size + 1, 0, none⟩ = some (.bool !s) ∧ w'.cell? ⟨w.heap.size + 1, 1, none⟩ = some (.slice ao' n' cap') := fun w' h => ⟨cell_heap (box_new (by simp) (More.un (More.un (More.refl _))) 0) (h.block _ (by simp <;> omega) (by simp <;> omega)), cell_heap (box_new (by simp) (More.un (More.un (More.refl _))) 1) (h.block _ (by simp <;> omega) (by simp <;> omega)), cell_heap (box_new (by simp) (More.un (More.refl _)) 0) (h.block _ (by simp <;> omega) (by simp <;> omega)), cell_heap (box_new (by simp) (More.un (More.refl _)) 1) (h.block _ (by simp <;> omega) (by simp <;> omega))⟩
    have HX : More (((w.alloc (.cells #[.bool s, .slice ao n cap] 24)).alloc (.cells #[.bool !s, .slice ao' n' cap'] 24)).alloc (.cells #[.bool false, .slice none 0 0] 24)) (((w.alloc (.cells #[.bool s, .slice ao n cap] 24)).alloc (.cells #[.bool !s, .slice ao' n' cap'] 24)).alloc (.cells #[.bool false, .slice none 0 0] 24)) := More.refl _
    have HB : ∀ w', More (((w.alloc (.cells #[.bool s, .slice ao n cap] 24)).alloc (.cells #[.bool !s, .slice ao' n' cap'] 24)).alloc (.cells #[.bool false, .slice none 0 0] 24)) w' → w'.cell? ⟨w.heap.size, 0, none⟩ = some (.bool s) ∧ w'.cell? ⟨w.heap.size, 1, none⟩ = some (.slice ao n cap) ∧ (∀ j, w'.frozen? ⟨w.heap.size, j, none⟩ = false) ∧ w'.cell? ⟨w.heap.size + 1, 0, none⟩ = some (.bool !s) ∧ w'.cell? ⟨w.heap.size + 1, 1, none⟩ = some (.slice ao' n' cap') ∧ (∀ j, w'.frozen? ⟨w.heap.size + 1, j, none⟩ = false) ∧ w'.cell? ⟨w.heap.size + 1 + 1, 0, none⟩ = some (.bool false) ∧ w'.cell? ⟨w.heap.size + 1 + 1, 1, none⟩ = some (.slice none 0 0) ∧ (∀ j, w'.frozen? ⟨w.heap.size + 1 + 1, j, none⟩ = false) := fun w' h => ⟨box_new (by simp) (More.un (More.un h)) 0, box_new (by simp) (More.un (More.un h)) 1, fun j => box_free (by simp) (More.un (More.un h)) j, box_new (by simp) (More.un h) 0, box_new (by simp) (More.un h) 1, fun j => box_free (by simp) (More.un h) j, box_new (by simp) h 0, box_new (by simp) h 1, fun j => box_free (by simp) h j⟩
    go_enter Tryz.func126, Tryz.ntmps126
    go_wp2_with (go_at_call 159; refine (spec_l02Cmp _ _ m m' _ (Ty.at_more HV.out mC) (Ty.at_more HV'.out mC) (by rw [← HN.out]; have := HL.out; omega) (by rw [← HN'.out]; have := HM.out; omega)).mono ?_; rintro e w0 ⟨rfl, hb0⟩; have HX0 : More (((w.alloc (.cells #[.bool s, .slice ao n cap] 24)).alloc (.cells #[.bool !s, .slice ao' n' cap'] 24)).alloc (.cells #[.bool false, .slice none 0 0] 24)) w0 := mC; have HB0 := HB _ HX0; have hz0 := More.size HX0; (try simp at hz0); have hb0 := hb0; rw [EC.out])
    go_region_held3 (fun w' => Turns [w.heap.size + 1 + 1] (((w.alloc (.cells #[.bool s, .slice ao n cap] 24)).alloc (.cells #[.bool !s, .slice ao' n' cap'] 24)).alloc (.cells #[.bool false, .slice none 0 0] 24)) w') (first | exact tC | exact mC2) (first | (go_at_call 160; refine (spec_l02Sub _ _ m m' _ (Ty.at_more HV.out mC) (Ty.at_more HV'.out mC) (by rw [← HN.out]; have := HL.out; omega) (by rw [← HN'.out]; have := HM.out; omega) HLE.out).mono ?_; rintro e w1 ⟨u, rfl, hb1, g1⟩; obtain ⟨ua, un, uc, rfl⟩ := sh1 g1; have G1 := Lib.hid g1; clear g1; have HX1 : More (((w.alloc (.cells #[.bool s, .slice ao n cap] 24)).alloc (.cells #[.bool !s, .slice ao' n' cap'] 24)).alloc (.cells #[.bool false, .slice none 0 0] 24)) w1 := mC; have HB1 := HB _ HX1; have hz1 := More.size HX1; (try simp at hz1); have hb1 := hb1) | (go_at_call 128; refine (spec_l03Make _ _ (m - m') _ (Ty.at_more G1.out mC) HRL.out).mono ?_; rintro e w2 ⟨u3, rfl, hb2, f3⟩; obtain ⟨ub, um, ud, rfl⟩ := sh1 (Ty.fresh_at f3); have F3 := Lib.hid f3; clear f3; have HX2 : More (((w.alloc (.cells #[.bool s, .slice ao n cap] 24)).alloc (.cells #[.bool !s, .slice ao' n' cap'] 24)).alloc (.cells #[.bool false, .slice none 0 0] 24)) w2 := mC; have HB2 := HB _ HX2; have hz2 := More.size HX2; (try simp at hz2); have hb2 := hb2))
    all_goals
      go_wp2_with fail
      refine bodyPost_ret (v := .agg #[.bool (decide (sgn (s) (m - m') < 0)), .slice ub um ud]) ?_ rfl ?_
      · simp [results, Tryz.results126, go_sem, *]
      · exact ⟨_, rfl, mC2, ints_set2 (Ty.at_more (Ty.fresh_at F3.out) mC) (HB _ HX2).2.2.2.2.2.2.1 (HB _ HX2).2.2.2.2.2.2.2.1⟩
  · have HLE : Hid (m ≤ m') := Lib.hid (by omega)
    have HRL : Hid ((limbs (m' - m)).length ≤ 60) := Lib.hid (by have h1 := limbs_len_mono (Nat.sub_le m' m); have h2 := HN'.out; have h4 := HM.out; omega)
    have hc : ¬ 0 ≤ c := by rw [← ec]; have := cmpI_neg (a := (m : Int)) (b := (m' : Int)); omega
    clear ec
    rw [Int.add_comm, show sgn s m = sgn (!!s) m by simp, sgn_diff (!s) HLE.out, natAbs_sgn]
    have HC : ∀ w', Turns [w.heap.size + 1 + 1] (((w.alloc (.cells #[.bool s, .slice ao n cap] 24)).alloc (.cells #[.bool !s, .slice ao' n' cap'] 24)).alloc (.cells #[.bool false, .slice none 0 0] 24)) w' → w'.cell? ⟨w.heap.size, 0, none⟩ = some (.bool s) ∧ w'.cell? ⟨w.heap.size, 1, none⟩ = some (.slice ao n cap) ∧ w'.cell? ⟨w.heap.size + 1, 0, none⟩ = some (.bool !s) ∧ w'.cell? ⟨w.heap.size + 1, 1, none⟩ = some (.slice ao' n' cap') := fun w' h => ⟨cell_heap (box_new (by simp) (More.un (More.un (More.refl _))) 0) (h.block _ (by simp <;> omega) (by simp <;> omega)), cell_heap (box_new (by simp) (More.un (More.un (More.refl _))) 1) (h.block _ (by simp <;> omega) (by simp <;> omega)), cell_heap (box_new (by simp) (More.un (More.refl _)) 0) (h.block _ (by simp <;> omega) (by simp <;> omega)), cell_heap (box_new (by simp) (More.un (More.refl _)) 1) (h.block _ (by simp <;> omega) (by simp <;> omega))⟩
    have HX : More (((w.alloc (.cells #[.bool s, .slice ao n cap] 24)).alloc (.cells #[.bool !s, .slice ao' n' cap'] 24)).alloc (.cells #[.bool false, .slice none 0 0] 24)) (((w.alloc (.cells #[.bool s, .slice ao n cap] 24)).alloc (.cells #[.bool !s, .slice ao' n' cap'] 24)).alloc (.cells #[.bool false, .slice none 0 0] 24)) := More.refl _
    have HB : ∀ w', More (((w.alloc (.cells #[.bool s, .slice ao n cap] 24)).alloc (.cells #[.bool !s, .slice ao' n' cap'] 24)).alloc (.cells #[.bool false, .slice none 0 0] 24)) w' → w'.cell? ⟨w.heap.size, 0, none⟩ = some (.bool s) ∧ w'.cell? ⟨w.heap.size, 1, none⟩ = some (.slice ao n cap) ∧ (∀ j, w'.frozen? ⟨w.heap.size, j, none⟩ = false) ∧ w'.cell? ⟨w.heap.size + 1, 0, none⟩ = some (.bool !s) ∧ w'.cell? ⟨w.heap.size + 1, 1, none⟩ = some (.slice ao' n' cap') ∧ (∀ j, w'.frozen? ⟨w.heap.size + 1, j, none⟩ = false) ∧ w'.cell? ⟨w.heap.size + 1 + 1, 0, none⟩ = some (.bool false) ∧ w'.cell? ⟨w.heap.size + 1 + 1, 1, none⟩ = some (.slice none 0 0) ∧ (∀ j, w'.frozen? ⟨w.heap.size + 1 + 1, j, none⟩ = false) := fun w' h => ⟨box_new (by simp) (More.un (More.un h)) 0, box_new (by simp) (More.un (More.un h)) 1, fun j => box_free (by simp) (More.un (More.un h)) j, box_new (by simp) (More.un h) 0, box_new (by simp) (More.un h) 1, fun j => box_free (by simp) (More.un h) j, box_new (by simp) h 0, box_new (by simp) h 1, fun j => box_free (by simp) h j⟩
    go_enter Tryz.func126, Tryz.ntmps126
    go_wp2_with (go_at_call 159; refine (spec_l02Cmp _ _ m m' _ (Ty.at_more HV.out mC) (Ty.at_more HV'.out mC) (by rw [← HN.out]; have := HL.out; omega) (by rw [← HN'.out]; have := HM.out; omega)).mono ?_; rintro e w0 ⟨rfl, hb0⟩; have HX0 : More (((w.alloc (.cells #[.bool s, .slice ao n cap] 24)).alloc (.cells #[.bool !s, .slice ao' n' cap'] 24)).alloc (.cells #[.bool false, .slice none 0 0] 24)) w0 := mC; have HB0 := HB _ HX0; have hz0 := More.size HX0; (try simp at hz0); have hb0 := hb0; rw [EC.out])
    go_region_held3 (fun w' => Turns [w.heap.size + 1 + 1] (((w.alloc (.cells #[.bool s, .slice ao n cap] 24)).alloc (.cells #[.bool !s, .slice ao' n' cap'] 24)).alloc (.cells #[.bool false, .slice none 0 0] 24)) w') (first | exact tC | exact mC2) (first | (go_at_call 160; refine (spec_l02Sub _ _ m' m _ (Ty.at_more HV'.out mC) (Ty.at_more HV.out mC) (by rw [← HN'.out]; have := HM.out; omega) (by rw [← HN.out]; have := HL.out; omega) HLE.out).mono ?_; rintro e w1 ⟨u, rfl, hb1, g1⟩; obtain ⟨ua, un, uc, rfl⟩ := sh1 g1; have G1 := Lib.hid g1; clear g1; have HX1 : More (((w.alloc (.cells #[.bool s, .slice ao n cap] 24)).alloc (.cells #[.bool !s, .slice ao' n' cap'] 24)).alloc (.cells #[.bool false, .slice none 0 0] 24)) w1 := mC; have HB1 := HB _ HX1; have hz1 := More.size HX1; (try simp at hz1); have hb1 := hb1) | (go_at_call 128; refine (spec_l03Make _ _ (m' - m) _ (Ty.at_more G1.out mC) HRL.out).mono ?_; rintro e w2 ⟨u3, rfl, hb2, f3⟩; obtain ⟨ub, um, ud, rfl⟩ := sh1 (Ty.fresh_at f3); have F3 := Lib.hid f3; clear f3; have HX2 : More (((w.alloc (.cells #[.bool s, .slice ao n cap] 24)).alloc (.cells #[.bool !s, .slice ao' n' cap'] 24)).alloc (.cells #[.bool false, .slice none 0 0] 24)) w2 := mC; have HB2 := HB _ HX2; have hz2 := More.size HX2; (try simp at hz2); have hb2 := hb2))
    all_goals
      go_wp2_with fail
      refine bodyPost_ret (v := .agg #[.bool (decide (sgn (!s) (m' - m) < 0)), .slice ub um ud]) ?_ rfl ?_
      · simp [results, Tryz.results126, go_sem, *]
      · exact ⟨_, rfl, mC2, ints_set2 (Ty.at_more (Ty.fresh_at F3.out) mC) (HB _ HX2).2.2.2.2.2.2.1 (HB _ HX2).2.2.2.2.2.2.2.1⟩
end Go.Proofs.YtnbefpfijaimjaaGreatDoor
/- Fractions in lowest terms: the program's making. -/
namespace Go.Proofs.YtnbefpfijaimjaaGreatDoor
open Go.RowKit
theorem sgn_neg_iff {s : Bool} {m : Nat} (h : s = true → m ≠ 0) : decide (sgn s m < 0) = s := by
  rw [sgn_neg]
  cases s
  · rfl
  · simp [h rfl]
theorem frMk_sgn {s : Bool} {m d : Nat} (hs : s = true → m ≠ 0) : frMk (sgn s m) d = if sm (m / Nat.gcd m d) && sm (d / Nat.gcd m d) then (sgn s (m / Nat.gcd m d), d / Nat.gcd m d) else (0, 0) := by
  unfold frMk
  rw [natAbs_sgn, sgn_neg_iff hs]
theorem div_gcd_ne {m d : Nat} (h : m ≠ 0) : m / Nat.gcd m d ≠ 0 := by
  have h1 := Nat.le_of_dvd (Nat.pos_of_ne_zero h) (Nat.gcd_dvd_left m d)
  have h2 := Nat.gcd_pos_of_pos_left d (Nat.pos_of_ne_zero h)
  have := Nat.div_pos h1 h2
  omega
theorem RatFr.mk {B : Nat} {w : World} {x y : Value} {s : Bool} {M D : Nat} (hs : decide (sgn s M < 0) = s) (h : tRat.fresh B w [.bool s, x, y] ((s, limbs M), limbs D)) : RatFr B w (sgn s M, D) x y := by
  unfold RatFr encR encZ
  simp only [natAbs_sgn, hs]
  exact h
theorem sm_no {a b : Nat} (h : ¬ ((limbs a).length ≤ 24 ∧ (limbs b).length ≤ 24)) : (sm a && sm b) = false := by
  rw [Bool.eq_false_iff]
  intro k
  rw [Bool.and_eq_true, sm_iff, sm_iff] at k
  exact h k
theorem sm_yes {a b : Nat} (h : (limbs a).length ≤ 24 ∧ (limbs b).length ≤ 24) : (sm a && sm b) = true := by rw [Bool.and_eq_true, sm_iff, sm_iff]; exact h
set_option maxRecDepth 8000 in
set_option maxHeartbeats 12800000 in
theorem impl_ratMake (s : Bool) (v v' : Value) (m d : Nat) (w : World) (hs : s = true → m ≠ 0) (hd : d ≠ 0) (hv : tInts.at w [v] (limbs m)) (hv' : tInts.at w [v'] (limbs d)) (hl : (limbs m).length ≤ 1000) (hm : (limbs d).length ≤ 1000) :
    Calls Tryz.prog 107 #[.agg #[.bool s, v], v'] w fun e w' => ∃ x y, e = .returned (.agg #[.bool (decide ((frMk (sgn s m) d).1 < 0)), x, y]) ∧ More w w' ∧ RatFr w.heap.size w' (frMk (sgn s m) d) x y := by
  rw [frMk_sgn hs]
  have HGD : Hid (decide (sgn s (m / Nat.gcd m d) < 0) = s) := Lib.hid (sgn_neg_iff (fun h => div_gcd_ne (hs h)))
  have HGL : Hid ((limbs (Nat.gcd m d)).length ≤ 1000) := Lib.hid (Nat.le_trans (limbs_len_mono (Nat.le_of_dvd (Nat.pos_of_ne_zero hd) (Nat.gcd_dvd_right m d))) hm)
  have hg0 : 0 < Nat.gcd m d := Nat.gcd_pos_of_pos_right _ (Nat.pos_of_ne_zero hd)
  obtain ⟨ao, cap, rfl⟩ := sl_len hv
  obtain ⟨ao', cap', rfl⟩ := sl_len hv'
  have HV := Lib.hid hv; have HV' := Lib.hid hv'; have HL := Lib.hid hl; have HM := Lib.hid hm; clear hv hv' hl hm hs
  obtain ⟨n, hn⟩ : ∃ n, n = (limbs m).length := ⟨_, rfl⟩
  obtain ⟨n', hn'⟩ : ∃ n, n = (limbs d).length := ⟨_, rfl⟩
  rw [← hn] at HV HL ⊢
  rw [← hn'] at HV' HM ⊢
  have HN := Lib.hid hn; have HN' := Lib.hid hn'; clear hn hn'
  have HG0 := Lib.hid hg0; clear hg0
  by_cases h1 : d = 1
  · have H1 : Hid (decide (d = 1) = true) := Lib.hid (decide_eq_true h1)
    have HG1 : Nat.gcd m d = 1 := by rw [h1, Nat.gcd_one_right]
    rw [HG1, Nat.div_one] at HGD
    rw [HG1, Nat.div_one, Nat.div_one]
    have HSM := HGD
    clear HGD HG1 HGL HG0 h1 hd
    by_cases hfit : (limbs m).length ≤ 24 ∧ (limbs d).length ≤ 24
    · have HMD := Lib.hid hfit
      rw [sm_yes hfit, if_pos rfl]
      rw [HSM.out]
      have hk1 : ¬ (24 : Int) < (n : Int) := by have h1 := hfit.1; have h2 := HN.out; omega
      have hk2 : ¬ (24 : Int) < (n' : Int) := by have h1 := hfit.2; have h2 := HN'.out; omega
      clear hfit
      have HC : ∀ w', Turns [w.heap.size + 1] ((w.alloc (.cells #[.bool s, .slice ao n cap] 24)).alloc (.cells #[.bool false, .slice none 0 0, .slice none 0 0] 26)) w' → w'.cell? ⟨w.heap.size, 0, none⟩ = some (.bool s) ∧ w'.cell? ⟨w.heap.size, 1, none⟩ = some (.slice ao n cap) := fun w' h => ⟨cell_heap (box_new (by simp) (More.un (More.refl _)) 0) (h.block _ (by simp <;> omega) (by simp <;> omega)), cell_heap (box_new (by simp) (More.un (More.refl _)) 1) (h.block _ (by simp <;> omega) (by simp <;> omega))⟩
      have HX : More ((w.alloc (.cells #[.bool s, .slice ao n cap] 24)).alloc (.cells #[.bool false, .slice none 0 0, .slice none 0 0] 26)) ((w.alloc (.cells #[.bool s, .slice ao n cap] 24)).alloc (.cells #[.bool false, .slice none 0 0, .slice none 0 0] 26)) := More.refl _
      have HB : ∀ w', More ((w.alloc (.cells #[.bool s, .slice ao n cap] 24)).alloc (.cells #[.bool false, .slice none 0 0, .slice none 0 0] 26)) w' → w'.cell? ⟨w.heap.size, 0, none⟩ = some (.bool s) ∧ w'.cell? ⟨w.heap.size, 1, none⟩ = some (.slice ao n cap) ∧ (∀ j, w'.frozen? ⟨w.heap.size, j, none⟩ = false) ∧ w'.cell? ⟨w.heap.size + 1, 0, none⟩ = some (.bool false) ∧ w'.cell? ⟨w.heap.size + 1, 1, none⟩ = some (.slice none 0 0) ∧ w'.cell? ⟨w.heap.size + 1, 2, none⟩ = some (.slice none 0 0) ∧ (∀ j, w'.frozen? ⟨w.heap.size + 1, j, none⟩ = false) := fun w' h => ⟨box_new (by simp) (More.un h) 0, box_new (by simp) (More.un h) 1, fun j => box_free (by simp) (More.un h) j, box_new (by simp) h 0, box_new (by simp) h 1, box_new (by simp) h 2, fun j => box_free (by simp) h j⟩
      go_enter Tryz.func107, Tryz.ntmps107
      go_wp2_with (first | (go_at_call 64; (with_reducible refine (impl_isOne (.slice ao' n' cap') d _ (Ty.at_more HV'.out mC)).mono ?_); rintro e w1 ⟨rfl, hb1⟩; have HX1 : More ((w.alloc (.cells #[.bool s, .slice ao n cap] 24)).alloc (.cells #[.bool false, .slice none 0 0, .slice none 0 0] 26)) w1 := mC; have HB1 := HB _ HX1; have hz1 := More.size HX1; (try simp at hz1); have hb1 := hb1; rw [H1.out]) | (go_at_call 144; refine (impl_ownBig _ _ m _ (Ty.at_more HV.out mC) (Nat.le_trans HMD.out.1 (by decide))).mono ?_; rintro e w6 ⟨u6, rfl, hb6, f6⟩; obtain ⟨ua, un, uc, rfl⟩ := sh1 (Ty.fresh_at f6); have F6 := Lib.hid f6; clear f6; have HX6 : More ((w.alloc (.cells #[.bool s, .slice ao n cap] 24)).alloc (.cells #[.bool false, .slice none 0 0, .slice none 0 0] 26)) w6 := mC; have HB6 := HB _ HX6; have hz6 := More.size HX6; (try simp at hz6); have hb6 := hb6) | (go_at_call 145; refine (clone_ints _ (limbs d) _ (Ty.at_more HV'.out mC) (by have := HMD.out.2; omega)).mono ?_; rintro e w7 ⟨u7, rfl, hb7, f7⟩; obtain ⟨va, vn, vc, rfl⟩ := sh1 (Ty.fresh_at f7); have F7 := Lib.hid f7; clear f7; have HX7 : More ((w.alloc (.cells #[.bool s, .slice ao n cap] 24)).alloc (.cells #[.bool false, .slice none 0 0, .slice none 0 0] 26)) w7 := mC; have HB7 := HB _ HX7; have hz7 := More.size HX7; (try simp at hz7); have hb7 := hb7))
      refine bodyPost_ret (v := .agg #[.bool s, .slice ua un uc, .slice va vn vc]) ?_ rfl ?_
      · simp [results, Tryz.results107, go_sem, *]
      · exact ⟨_, _, rfl, mC2, RatFr.mk HSM.out (Ty.fresh_mono (rat_fA (bs := [w.heap.size + 1]) F6.out F7.out tC tC (by simp; have h7 := HX1.size; simp at h7; omega) hb6.size) (by have h7 := HX1.size; simp at h7; omega))⟩
    · rw [sm_no hfit, if_neg (by decide)]
      show Calls _ _ _ _ (fun e w' => ∃ x y, e = .returned (.agg #[.bool false, x, y]) ∧ More w w' ∧ RatFr w.heap.size w' (0, 0) x y)
      by_cases hm1 : (limbs m).length ≤ 24
      · have HMD : Hid ((limbs m).length ≤ 24 ∧ ¬ (limbs d).length ≤ 24) := Lib.hid ⟨hm1, fun h => hfit ⟨hm1, h⟩⟩
        have hk1 : ¬ (24 : Int) < (n : Int) := by have h1 := HMD.out.1; have h2 := HN.out; omega
        have hk2 : (24 : Int) < (n' : Int) := by have h1 := HMD.out.2; have h2 := HN'.out; omega
        clear hfit hm1
        have HC : ∀ w', Turns [w.heap.size + 1] ((w.alloc (.cells #[.bool s, .slice ao n cap] 24)).alloc (.cells #[.bool false, .slice none 0 0, .slice none 0 0] 26)) w' → w'.cell? ⟨w.heap.size, 0, none⟩ = some (.bool s) ∧ w'.cell? ⟨w.heap.size, 1, none⟩ = some (.slice ao n cap) := fun w' h => ⟨cell_heap (box_new (by simp) (More.un (More.refl _)) 0) (h.block _ (by simp <;> omega) (by simp <;> omega)), cell_heap (box_new (by simp) (More.un (More.refl _)) 1) (h.block _ (by simp <;> omega) (by simp <;> omega))⟩
        have HX : More ((w.alloc (.cells #[.bool s, .slice ao n cap] 24)).alloc (.cells #[.bool false, .slice none 0 0, .slice none 0 0] 26)) ((w.alloc (.cells #[.bool s, .slice ao n cap] 24)).alloc (.cells #[.bool false, .slice none 0 0, .slice none 0 0] 26)) := More.refl _
        have HB : ∀ w', More ((w.alloc (.cells #[.bool s, .slice ao n cap] 24)).alloc (.cells #[.bool false, .slice none 0 0, .slice none 0 0] 26)) w' → w'.cell? ⟨w.heap.size, 0, none⟩ = some (.bool s) ∧ w'.cell? ⟨w.heap.size, 1, none⟩ = some (.slice ao n cap) ∧ (∀ j, w'.frozen? ⟨w.heap.size, j, none⟩ = false) ∧ w'.cell? ⟨w.heap.size + 1, 0, none⟩ = some (.bool false) ∧ w'.cell? ⟨w.heap.size + 1, 1, none⟩ = some (.slice none 0 0) ∧ w'.cell? ⟨w.heap.size + 1, 2, none⟩ = some (.slice none 0 0) ∧ (∀ j, w'.frozen? ⟨w.heap.size + 1, j, none⟩ = false) := fun w' h => ⟨box_new (by simp) (More.un h) 0, box_new (by simp) (More.un h) 1, fun j => box_free (by simp) (More.un h) j, box_new (by simp) h 0, box_new (by simp) h 1, box_new (by simp) h 2, fun j => box_free (by simp) h j⟩
        go_enter Tryz.func107, Tryz.ntmps107
        go_wp2_with (first | (go_at_call 64; (with_reducible refine (impl_isOne (.slice ao' n' cap') d _ (Ty.at_more HV'.out mC)).mono ?_); rintro e w1 ⟨rfl, hb1⟩; have HX1 : More ((w.alloc (.cells #[.bool s, .slice ao n cap] 24)).alloc (.cells #[.bool false, .slice none 0 0, .slice none 0 0] 26)) w1 := mC; have HB1 := HB _ HX1; have hz1 := More.size HX1; (try simp at hz1); have hb1 := hb1; rw [H1.out]))
        refine bodyPost_ret (v := .agg #[.bool false, .slice none 0 0, .slice none 0 0]) ?_ rfl ?_
        · simp [results, Tryz.results107, go_sem, *]
        · exact ⟨_, _, rfl, mC2, RatFr.zero⟩
      · have HMD := Lib.hid hm1
        have hk1 : (24 : Int) < (n : Int) := by have h1 := HMD.out; have h2 := HN.out; omega
        clear hfit hm1
        have HC : ∀ w', Turns [w.heap.size + 1] ((w.alloc (.cells #[.bool s, .slice ao n cap] 24)).alloc (.cells #[.bool false, .slice none 0 0, .slice none 0 0] 26)) w' → w'.cell? ⟨w.heap.size, 0, none⟩ = some (.bool s) ∧ w'.cell? ⟨w.heap.size, 1, none⟩ = some (.slice ao n cap) := fun w' h => ⟨cell_heap (box_new (by simp) (More.un (More.refl _)) 0) (h.block _ (by simp <;> omega) (by simp <;> omega)), cell_heap (box_new (by simp) (More.un (More.refl _)) 1) (h.block _ (by simp <;> omega) (by simp <;> omega))⟩
        have HX : More ((w.alloc (.cells #[.bool s, .slice ao n cap] 24)).alloc (.cells #[.bool false, .slice none 0 0, .slice none 0 0] 26)) ((w.alloc (.cells #[.bool s, .slice ao n cap] 24)).alloc (.cells #[.bool false, .slice none 0 0, .slice none 0 0] 26)) := More.refl _
        have HB : ∀ w', More ((w.alloc (.cells #[.bool s, .slice ao n cap] 24)).alloc (.cells #[.bool false, .slice none 0 0, .slice none 0 0] 26)) w' → w'.cell? ⟨w.heap.size, 0, none⟩ = some (.bool s) ∧ w'.cell? ⟨w.heap.size, 1, none⟩ = some (.slice ao n cap) ∧ (∀ j, w'.frozen? ⟨w.heap.size, j, none⟩ = false) ∧ w'.cell? ⟨w.heap.size + 1, 0, none⟩ = some (.bool false) ∧ w'.cell? ⟨w.heap.size + 1, 1, none⟩ = some (.slice none 0 0) ∧ w'.cell? ⟨w.heap.size + 1, 2, none⟩ = some (.slice none 0 0) ∧ (∀ j, w'.frozen? ⟨w.heap.size + 1, j, none⟩ = false) := fun w' h => ⟨box_new (by simp) (More.un h) 0, box_new (by simp) (More.un h) 1, fun j => box_free (by simp) (More.un h) j, box_new (by simp) h 0, box_new (by simp) h 1, box_new (by simp) h 2, fun j => box_free (by simp) h j⟩
        go_enter Tryz.func107, Tryz.ntmps107
        go_wp2_with (first | (go_at_call 64; (with_reducible refine (impl_isOne (.slice ao' n' cap') d _ (Ty.at_more HV'.out mC)).mono ?_); rintro e w1 ⟨rfl, hb1⟩; have HX1 : More ((w.alloc (.cells #[.bool s, .slice ao n cap] 24)).alloc (.cells #[.bool false, .slice none 0 0, .slice none 0 0] 26)) w1 := mC; have HB1 := HB _ HX1; have hz1 := More.size HX1; (try simp at hz1); have hb1 := hb1; rw [H1.out]))
        refine bodyPost_ret (v := .agg #[.bool false, .slice none 0 0, .slice none 0 0]) ?_ rfl ?_
        · simp [results, Tryz.results107, go_sem, *]
        · exact ⟨_, _, rfl, mC2, RatFr.zero⟩
  have H1 : Hid (decide (d = 1) = false) := Lib.hid (decide_eq_false h1)
  obtain ⟨G, hG⟩ : ∃ G, Nat.gcd m d = G := ⟨_, rfl⟩
  rw [hG] at HGD HGL HG0 ⊢
  have HGG := Lib.hid hG; clear hG h1
  by_cases h2 : G = 1
  · have H2 : Hid (decide (G = 1) = true) := Lib.hid (decide_eq_true h2)
    rw [h2, Nat.div_one] at HGD
    rw [h2, Nat.div_one, Nat.div_one]
    have HSM := HGD
    clear HGD h2 hd
    by_cases hfit : (limbs m).length ≤ 24 ∧ (limbs d).length ≤ 24
    · have HMD := Lib.hid hfit
      rw [sm_yes hfit, if_pos rfl]
      rw [HSM.out]
      have hk1 : ¬ (24 : Int) < (n : Int) := by have h1 := hfit.1; have h2 := HN.out; omega
      have hk2 : ¬ (24 : Int) < (n' : Int) := by have h1 := hfit.2; have h2 := HN'.out; omega
      clear hfit
      have HC : ∀ w', Turns [w.heap.size + 1] ((w.alloc (.cells #[.bool s, .slice ao n cap] 24)).alloc (.cells #[.bool false, .slice none 0 0, .slice none 0 0] 26)) w' → w'.cell? ⟨w.heap.size, 0, none⟩ = some (.bool s) ∧ w'.cell? ⟨w.heap.size, 1, none⟩ = some (.slice ao n cap) := fun w' h => ⟨cell_heap (box_new (by simp) (More.un (More.refl _)) 0) (h.block _ (by simp <;> omega) (by simp <;> omega)), cell_heap (box_new (by simp) (More.un (More.refl _)) 1) (h.block _ (by simp <;> omega) (by simp <;> omega))⟩
      have HX : More ((w.alloc (.cells #[.bool s, .slice ao n cap] 24)).alloc (.cells #[.bool false, .slice none 0 0, .slice none 0 0] 26)) ((w.alloc (.cells #[.bool s, .slice ao n cap] 24)).alloc (.cells #[.bool false, .slice none 0 0, .slice none 0 0] 26)) := More.refl _
      have HB : ∀ w', More ((w.alloc (.cells #[.bool s, .slice ao n cap] 24)).alloc (.cells #[.bool false, .slice none 0 0, .slice none 0 0] 26)) w' → w'.cell? ⟨w.heap.size, 0, none⟩ = some (.bool s) ∧ w'.cell? ⟨w.heap.size, 1, none⟩ = some (.slice ao n cap) ∧ (∀ j, w'.frozen? ⟨w.heap.size, j, none⟩ = false) ∧ w'.cell? ⟨w.heap.size + 1, 0, none⟩ = some (.bool false) ∧ w'.cell? ⟨w.heap.size + 1, 1, none⟩ = some (.slice none 0 0) ∧ w'.cell? ⟨w.heap.size + 1, 2, none⟩ = some (.slice none 0 0) ∧ (∀ j, w'.frozen? ⟨w.heap.size + 1, j, none⟩ = false) := fun w' h => ⟨box_new (by simp) (More.un h) 0, box_new (by simp) (More.un h) 1, fun j => box_free (by simp) (More.un h) j, box_new (by simp) h 0, box_new (by simp) h 1, box_new (by simp) h 2, fun j => box_free (by simp) h j⟩
      go_enter Tryz.func107, Tryz.ntmps107
      go_wp2_with (first | (go_at_call 64; (with_reducible refine (impl_isOne (.slice ao' n' cap') d _ (Ty.at_more HV'.out mC)).mono ?_); rintro e w1 ⟨rfl, hb1⟩; have HX1 : More ((w.alloc (.cells #[.bool s, .slice ao n cap] 24)).alloc (.cells #[.bool false, .slice none 0 0, .slice none 0 0] 26)) w1 := mC; have HB1 := HB _ HX1; have hz1 := More.size HX1; (try simp at hz1); have hb1 := hb1; rw [H1.out]) | (go_at_call 90; refine (impl_natGcd _ _ m d _ (Ty.at_more HV.out mC) (Ty.at_more HV'.out mC) (by rw [← HN.out]; have := HL.out; omega) (by rw [← HN'.out]; have := HM.out; omega)).mono ?_; rintro e w2 ⟨u2, rfl, hb2, g2⟩; rw [HGG.out] at g2; obtain ⟨ga, gn, gc, rfl⟩ := sh1 g2; have G2 := Lib.hid g2; clear g2; have HX2 : More ((w.alloc (.cells #[.bool s, .slice ao n cap] 24)).alloc (.cells #[.bool false, .slice none 0 0, .slice none 0 0] 26)) w2 := mC; have HB2 := HB _ HX2; have hz2 := More.size HX2; (try simp at hz2); have hb2 := hb2) | (go_at_call 64; (with_reducible refine (impl_isOne (.slice ga gn gc) G _ (Ty.at_more G2.out mC)).mono ?_); rintro e w3 ⟨rfl, hb3⟩; have HX3 : More ((w.alloc (.cells #[.bool s, .slice ao n cap] 24)).alloc (.cells #[.bool false, .slice none 0 0, .slice none 0 0] 26)) w3 := mC; have HB3 := HB _ HX3; have hz3 := More.size HX3; (try simp at hz3); have hb3 := hb3; rw [H2.out]) | (go_at_call 144; refine (impl_ownBig _ _ m _ (Ty.at_more HV.out mC) (Nat.le_trans HMD.out.1 (by decide))).mono ?_; rintro e w6 ⟨u6, rfl, hb6, f6⟩; obtain ⟨ua, un, uc, rfl⟩ := sh1 (Ty.fresh_at f6); have F6 := Lib.hid f6; clear f6; have HX6 : More ((w.alloc (.cells #[.bool s, .slice ao n cap] 24)).alloc (.cells #[.bool false, .slice none 0 0, .slice none 0 0] 26)) w6 := mC; have HB6 := HB _ HX6; have hz6 := More.size HX6; (try simp at hz6); have hb6 := hb6) | (go_at_call 145; refine (clone_ints _ (limbs d) _ (Ty.at_more HV'.out mC) (by have := HMD.out.2; omega)).mono ?_; rintro e w7 ⟨u7, rfl, hb7, f7⟩; obtain ⟨va, vn, vc, rfl⟩ := sh1 (Ty.fresh_at f7); have F7 := Lib.hid f7; clear f7; have HX7 : More ((w.alloc (.cells #[.bool s, .slice ao n cap] 24)).alloc (.cells #[.bool false, .slice none 0 0, .slice none 0 0] 26)) w7 := mC; have HB7 := HB _ HX7; have hz7 := More.size HX7; (try simp at hz7); have hb7 := hb7))
      refine bodyPost_ret (v := .agg #[.bool s, .slice ua un uc, .slice va vn vc]) ?_ rfl ?_
      · simp [results, Tryz.results107, go_sem, *]
      · exact ⟨_, _, rfl, mC2, RatFr.mk HSM.out (Ty.fresh_mono (rat_fA (bs := [w.heap.size + 1]) F6.out F7.out tC tC (by simp; have h7 := HX3.size; simp at h7; omega) hb6.size) (by have h7 := HX3.size; simp at h7; omega))⟩
    · rw [sm_no hfit, if_neg (by decide)]
      show Calls _ _ _ _ (fun e w' => ∃ x y, e = .returned (.agg #[.bool false, x, y]) ∧ More w w' ∧ RatFr w.heap.size w' (0, 0) x y)
      by_cases hm1 : (limbs m).length ≤ 24
      · have HMD : Hid ((limbs m).length ≤ 24 ∧ ¬ (limbs d).length ≤ 24) := Lib.hid ⟨hm1, fun h => hfit ⟨hm1, h⟩⟩
        have hk1 : ¬ (24 : Int) < (n : Int) := by have h1 := HMD.out.1; have h2 := HN.out; omega
        have hk2 : (24 : Int) < (n' : Int) := by have h1 := HMD.out.2; have h2 := HN'.out; omega
        clear hfit hm1
        have HC : ∀ w', Turns [w.heap.size + 1] ((w.alloc (.cells #[.bool s, .slice ao n cap] 24)).alloc (.cells #[.bool false, .slice none 0 0, .slice none 0 0] 26)) w' → w'.cell? ⟨w.heap.size, 0, none⟩ = some (.bool s) ∧ w'.cell? ⟨w.heap.size, 1, none⟩ = some (.slice ao n cap) := fun w' h => ⟨cell_heap (box_new (by simp) (More.un (More.refl _)) 0) (h.block _ (by simp <;> omega) (by simp <;> omega)), cell_heap (box_new (by simp) (More.un (More.refl _)) 1) (h.block _ (by simp <;> omega) (by simp <;> omega))⟩
        have HX : More ((w.alloc (.cells #[.bool s, .slice ao n cap] 24)).alloc (.cells #[.bool false, .slice none 0 0, .slice none 0 0] 26)) ((w.alloc (.cells #[.bool s, .slice ao n cap] 24)).alloc (.cells #[.bool false, .slice none 0 0, .slice none 0 0] 26)) := More.refl _
        have HB : ∀ w', More ((w.alloc (.cells #[.bool s, .slice ao n cap] 24)).alloc (.cells #[.bool false, .slice none 0 0, .slice none 0 0] 26)) w' → w'.cell? ⟨w.heap.size, 0, none⟩ = some (.bool s) ∧ w'.cell? ⟨w.heap.size, 1, none⟩ = some (.slice ao n cap) ∧ (∀ j, w'.frozen? ⟨w.heap.size, j, none⟩ = false) ∧ w'.cell? ⟨w.heap.size + 1, 0, none⟩ = some (.bool false) ∧ w'.cell? ⟨w.heap.size + 1, 1, none⟩ = some (.slice none 0 0) ∧ w'.cell? ⟨w.heap.size + 1, 2, none⟩ = some (.slice none 0 0) ∧ (∀ j, w'.frozen? ⟨w.heap.size + 1, j, none⟩ = false) := fun w' h => ⟨box_new (by simp) (More.un h) 0, box_new (by simp) (More.un h) 1, fun j => box_free (by simp) (More.un h) j, box_new (by simp) h 0, box_new (by simp) h 1, box_new (by simp) h 2, fun j => box_free (by simp) h j⟩
        go_enter Tryz.func107, Tryz.ntmps107
        go_wp2_with (first | (go_at_call 64; (with_reducible refine (impl_isOne (.slice ao' n' cap') d _ (Ty.at_more HV'.out mC)).mono ?_); rintro e w1 ⟨rfl, hb1⟩; have HX1 : More ((w.alloc (.cells #[.bool s, .slice ao n cap] 24)).alloc (.cells #[.bool false, .slice none 0 0, .slice none 0 0] 26)) w1 := mC; have HB1 := HB _ HX1; have hz1 := More.size HX1; (try simp at hz1); have hb1 := hb1; rw [H1.out]) | (go_at_call 90; refine (impl_natGcd _ _ m d _ (Ty.at_more HV.out mC) (Ty.at_more HV'.out mC) (by rw [← HN.out]; have := HL.out; omega) (by rw [← HN'.out]; have := HM.out; omega)).mono ?_; rintro e w2 ⟨u2, rfl, hb2, g2⟩; rw [HGG.out] at g2; obtain ⟨ga, gn, gc, rfl⟩ := sh1 g2; have G2 := Lib.hid g2; clear g2; have HX2 : More ((w.alloc (.cells #[.bool s, .slice ao n cap] 24)).alloc (.cells #[.bool false, .slice none 0 0, .slice none 0 0] 26)) w2 := mC; have HB2 := HB _ HX2; have hz2 := More.size HX2; (try simp at hz2); have hb2 := hb2) | (go_at_call 64; (with_reducible refine (impl_isOne (.slice ga gn gc) G _ (Ty.at_more G2.out mC)).mono ?_); rintro e w3 ⟨rfl, hb3⟩; have HX3 : More ((w.alloc (.cells #[.bool s, .slice ao n cap] 24)).alloc (.cells #[.bool false, .slice none 0 0, .slice none 0 0] 26)) w3 := mC; have HB3 := HB _ HX3; have hz3 := More.size HX3; (try simp at hz3); have hb3 := hb3; rw [H2.out]))
        refine bodyPost_ret (v := .agg #[.bool false, .slice none 0 0, .slice none 0 0]) ?_ rfl ?_
        · simp [results, Tryz.results107, go_sem, *]
        · exact ⟨_, _, rfl, mC2, RatFr.zero⟩
      · have HMD := Lib.hid hm1
        have hk1 : (24 : Int) < (n : Int) := by have h1 := HMD.out; have h2 := HN.out; omega
        clear hfit hm1
        have HC : ∀ w', Turns [w.heap.size + 1] ((w.alloc (.cells #[.bool s, .slice ao n cap] 24)).alloc (.cells #[.bool false, .slice none 0 0, .slice none 0 0] 26)) w' → w'.cell? ⟨w.heap.size, 0, none⟩ = some (.bool s) ∧ w'.cell? ⟨w.heap.size, 1, none⟩ = some (.slice ao n cap) := fun w' h => ⟨cell_heap (box_new (by simp) (More.un (More.refl _)) 0) (h.block _ (by simp <;> omega) (by simp <;> omega)), cell_heap (box_new (by simp) (More.un (More.refl _)) 1) (h.block _ (by simp <;> omega) (by simp <;> omega))⟩
        have HX : More ((w.alloc (.cells #[.bool s, .slice ao n cap] 24)).alloc (.cells #[.bool false, .slice none 0 0, .slice none 0 0] 26)) ((w.alloc (.cells #[.bool s, .slice ao n cap] 24)).alloc (.cells #[.bool false, .slice none 0 0, .slice none 0 0] 26)) := More.refl _
        have HB : ∀ w', More ((w.alloc (.cells #[.bool s, .slice ao n cap] 24)).alloc (.cells #[.bool false, .slice none 0 0, .slice none 0 0] 26)) w' → w'.cell? ⟨w.heap.size, 0, none⟩ = some (.bool s) ∧ w'.cell? ⟨w.heap.size, 1, none⟩ = some (.slice ao n cap) ∧ (∀ j, w'.frozen? ⟨w.heap.size, j, none⟩ = false) ∧ w'.cell? ⟨w.heap.size + 1, 0, none⟩ = some (.bool false) ∧ w'.cell? ⟨w.heap.size + 1, 1, none⟩ = some (.slice none 0 0) ∧ w'.cell? ⟨w.heap.size + 1, 2, none⟩ = some (.slice none 0 0) ∧ (∀ j, w'.frozen? ⟨w.heap.size + 1, j, none⟩ = false) := fun w' h => ⟨box_new (by simp) (More.un h) 0, box_new (by simp) (More.un h) 1, fun j => box_free (by simp) (More.un h) j, box_new (by simp) h 0, box_new (by simp) h 1, box_new (by simp) h 2, fun j => box_free (by simp) h j⟩
        go_enter Tryz.func107, Tryz.ntmps107
        go_wp2_with (first | (go_at_call 64; (with_reducible refine (impl_isOne (.slice ao' n' cap') d _ (Ty.at_more HV'.out mC)).mono ?_); rintro e w1 ⟨rfl, hb1⟩; have HX1 : More ((w.alloc (.cells #[.bool s, .slice ao n cap] 24)).alloc (.cells #[.bool false, .slice none 0 0, .slice none 0 0] 26)) w1 := mC; have HB1 := HB _ HX1; have hz1 := More.size HX1; (try simp at hz1); have hb1 := hb1; rw [H1.out]) | (go_at_call 90; refine (impl_natGcd _ _ m d _ (Ty.at_more HV.out mC) (Ty.at_more HV'.out mC) (by rw [← HN.out]; have := HL.out; omega) (by rw [← HN'.out]; have := HM.out; omega)).mono ?_; rintro e w2 ⟨u2, rfl, hb2, g2⟩; rw [HGG.out] at g2; obtain ⟨ga, gn, gc, rfl⟩ := sh1 g2; have G2 := Lib.hid g2; clear g2; have HX2 : More ((w.alloc (.cells #[.bool s, .slice ao n cap] 24)).alloc (.cells #[.bool false, .slice none 0 0, .slice none 0 0] 26)) w2 := mC; have HB2 := HB _ HX2; have hz2 := More.size HX2; (try simp at hz2); have hb2 := hb2) | (go_at_call 64; (with_reducible refine (impl_isOne (.slice ga gn gc) G _ (Ty.at_more G2.out mC)).mono ?_); rintro e w3 ⟨rfl, hb3⟩; have HX3 : More ((w.alloc (.cells #[.bool s, .slice ao n cap] 24)).alloc (.cells #[.bool false, .slice none 0 0, .slice none 0 0] 26)) w3 := mC; have HB3 := HB _ HX3; have hz3 := More.size HX3; (try simp at hz3); have hb3 := hb3; rw [H2.out]))
        refine bodyPost_ret (v := .agg #[.bool false, .slice none 0 0, .slice none 0 0]) ?_ rfl ?_
        · simp [results, Tryz.results107, go_sem, *]
        · exact ⟨_, _, rfl, mC2, RatFr.zero⟩
  have H2 : Hid (decide (G = 1) = false) := Lib.hid (decide_eq_false h2)
  obtain ⟨M, hM⟩ : ∃ M, m / G = M := ⟨_, rfl⟩
  obtain ⟨D, hD⟩ : ∃ D, d / G = D := ⟨_, rfl⟩
  rw [hM] at HGD
  rw [hM, hD]
  have HEM := Lib.hid hM; have HED := Lib.hid hD
  have HSM := HGD
  have HGL : Hid ((limbs (Nat.gcd m d)).length ≤ 1000) := Lib.hid (by rw [HGG.out]; exact HGL.out)
  clear HGD h2 hM hD hd
  by_cases hfit : (limbs M).length ≤ 24 ∧ (limbs D).length ≤ 24
  · have HMD := Lib.hid hfit
    rw [sm_yes hfit, if_pos rfl]
    rw [HSM.out]
    clear hfit
    have HC : ∀ w', Turns [w.heap.size + 1] ((w.alloc (.cells #[.bool s, .slice ao n cap] 24)).alloc (.cells #[.bool false, .slice none 0 0, .slice none 0 0] 26)) w' → w'.cell? ⟨w.heap.size, 0, none⟩ = some (.bool s) ∧ w'.cell? ⟨w.heap.size, 1, none⟩ = some (.slice ao n cap) := fun w' h => ⟨cell_heap (box_new (by simp) (More.un (More.refl _)) 0) (h.block _ (by simp <;> omega) (by simp <;> omega)), cell_heap (box_new (by simp) (More.un (More.refl _)) 1) (h.block _ (by simp <;> omega) (by simp <;> omega))⟩
    have HX : More ((w.alloc (.cells #[.bool s, .slice ao n cap] 24)).alloc (.cells #[.bool false, .slice none 0 0, .slice none 0 0] 26)) ((w.alloc (.cells #[.bool s, .slice ao n cap] 24)).alloc (.cells #[.bool false, .slice none 0 0, .slice none 0 0] 26)) := More.refl _
    have HB : ∀ w', More ((w.alloc (.cells #[.bool s, .slice ao n cap] 24)).alloc (.cells #[.bool false, .slice none 0 0, .slice none 0 0] 26)) w' → w'.cell? ⟨w.heap.size, 0, none⟩ = some (.bool s) ∧ w'.cell? ⟨w.heap.size, 1, none⟩ = some (.slice ao n cap) ∧ (∀ j, w'.frozen? ⟨w.heap.size, j, none⟩ = false) ∧ w'.cell? ⟨w.heap.size + 1, 0, none⟩ = some (.bool false) ∧ w'.cell? ⟨w.heap.size + 1, 1, none⟩ = some (.slice none 0 0) ∧ w'.cell? ⟨w.heap.size + 1, 2, none⟩ = some (.slice none 0 0) ∧ (∀ j, w'.frozen? ⟨w.heap.size + 1, j, none⟩ = false) := fun w' h => ⟨box_new (by simp) (More.un h) 0, box_new (by simp) (More.un h) 1, fun j => box_free (by simp) (More.un h) j, box_new (by simp) h 0, box_new (by simp) h 1, box_new (by simp) h 2, fun j => box_free (by simp) h j⟩
    go_enter Tryz.func107, Tryz.ntmps107
    go_wp2_with (first | (go_at_call 64; (with_reducible refine (impl_isOne (.slice ao' n' cap') d _ (Ty.at_more HV'.out mC)).mono ?_); rintro e w1 ⟨rfl, hb1⟩; have HX1 : More ((w.alloc (.cells #[.bool s, .slice ao n cap] 24)).alloc (.cells #[.bool false, .slice none 0 0, .slice none 0 0] 26)) w1 := mC; have HB1 := HB _ HX1; have hz1 := More.size HX1; (try simp at hz1); have hb1 := hb1; rw [H1.out]) | (go_at_call 90; refine (impl_natGcd _ _ m d _ (Ty.at_more HV.out mC) (Ty.at_more HV'.out mC) (by rw [← HN.out]; have := HL.out; omega) (by rw [← HN'.out]; have := HM.out; omega)).mono ?_; rintro e w2 ⟨u2, rfl, hb2, g2⟩; rw [HGG.out] at g2; obtain ⟨ga, gn, gc, rfl⟩ := sh1 g2; have G2 := Lib.hid g2; clear g2; have HX2 : More ((w.alloc (.cells #[.bool s, .slice ao n cap] 24)).alloc (.cells #[.bool false, .slice none 0 0, .slice none 0 0] 26)) w2 := mC; have HB2 := HB _ HX2; have hz2 := More.size HX2; (try simp at hz2); have hb2 := hb2) | (go_at_call 64; (with_reducible refine (impl_isOne (.slice ga gn gc) G _ (Ty.at_more G2.out mC)).mono ?_); rintro e w3 ⟨rfl, hb3⟩; have HX3 : More ((w.alloc (.cells #[.bool s, .slice ao n cap] 24)).alloc (.cells #[.bool false, .slice none 0 0, .slice none 0 0] 26)) w3 := mC; have HB3 := HB _ HX3; have hz3 := More.size HX3; (try simp at hz3); have hb3 := hb3; rw [H2.out]) | (go_at_call 124; (with_reducible refine (impl_natDiv (.slice ao n cap) (.slice ga gn gc) m G _ (Ty.at_more HV.out mC) (Ty.at_more G2.out mC) (by rw [← HN.out]; have := HL.out; omega) (by rw [← HGG.out]; have := HGL.out; omega) HG0.out).mono ?_); rintro e w4 ⟨q1, r1, rfl, hb4, g4, _⟩; rw [HEM.out] at g4; obtain ⟨q1a, q1c, rfl⟩ := sl_len g4; generalize hq1 : (limbs M).length = q1n at g4 ⊢; have HQ1 := Lib.hid hq1; clear hq1; have hk1 : ¬ (24 : Int) < (q1n : Int) := (by have h5 := HQ1.out; have h6 := HMD.out; omega); have G4 := Lib.hid g4; clear g4; have HX4 : More ((w.alloc (.cells #[.bool s, .slice ao n cap] 24)).alloc (.cells #[.bool false, .slice none 0 0, .slice none 0 0] 26)) w4 := mC; have HB4 := HB _ HX4; have hz4 := More.size HX4; (try simp at hz4); have hb4 := hb4; have hz4 : w.heap.size + 1 < w4.heap.size := (by have h7 := HX4.size; simp at h7; omega)) | (go_at_call 124; (with_reducible refine (impl_natDiv (.slice ao' n' cap') (.slice ga gn gc) d G _ (Ty.at_more HV'.out mC2) (ints_set (Ty.at_more G2.out mC) HB4.2.1 (by simp)) (by rw [← HN'.out]; have := HM.out; omega) (by rw [← HGG.out]; have := HGL.out; omega) HG0.out).mono ?_); rintro e w5 ⟨q2, r2, rfl, hb5, g5, _⟩; rw [HED.out] at g5; obtain ⟨q2a, q2c, rfl⟩ := sl_len g5; generalize hq2 : (limbs D).length = q2n at g5 ⊢; have HQ2 := Lib.hid hq2; clear hq2; have hk2 : ¬ (24 : Int) < (q2n : Int) := (by have h5 := HQ2.out; have h6 := HMD.out; have h8 := HQ1.out; omega); have G5 := Lib.hid g5; clear g5; have hz5 : w.heap.size + 1 < w5.heap.size := (by have h7 := hb5.size; simp at h7; omega); have Q4 : Hid (tInts.at w5 [.slice q1a q1n q1c] (limbs M)) := Lib.hid (Ty.at_more (ints_set G4.out HB4.2.1 (by simp)) hb5); have P0 : w5.cell? ⟨w.heap.size, 0, none⟩ = some (.bool s) := box_keep hb5 (by simp <;> omega) ((World.cell?_setCell_other _ _ _ _ (by simp)).trans HB4.1); have P1 : w5.cell? ⟨w.heap.size, 1, none⟩ = some (.slice q1a q1n q1c) := box_keep hb5 (by simp <;> omega) (World.cell?_setCell_same _ _ _ HB4.2.1); have R0 : w5.cell? ⟨w.heap.size + 1, 0, none⟩ = some (.bool false) := box_keep hb5 (by simp <;> omega) ((World.cell?_setCell_other _ _ _ _ (by simp)).trans HB4.2.2.2.1); have R1 : w5.cell? ⟨w.heap.size + 1, 1, none⟩ = some (.slice none 0 0) := box_keep hb5 (by simp <;> omega) ((World.cell?_setCell_other _ _ _ _ (by simp)).trans HB4.2.2.2.2.1); have R2 : w5.cell? ⟨w.heap.size + 1, 2, none⟩ = some (.slice none 0 0) := box_keep hb5 (by simp <;> omega) ((World.cell?_setCell_other _ _ _ _ (by simp)).trans HB4.2.2.2.2.2.1); have RF : ∀ j, w5.frozen? ⟨w.heap.size + 1, j, none⟩ = false := fun j => free_keep hb5 (by simp <;> omega) ((World.frozen?_setCell _ _ _ _).trans (HB4.2.2.2.2.2.2 j)); have HB5 : ∀ W, More w5 W → W.cell? ⟨w.heap.size + 1, 0, none⟩ = some (.bool false) ∧ W.cell? ⟨w.heap.size + 1, 1, none⟩ = some (.slice none 0 0) ∧ W.cell? ⟨w.heap.size + 1, 2, none⟩ = some (.slice none 0 0) ∧ (∀ j, W.frozen? ⟨w.heap.size + 1, j, none⟩ = false) := fun W h => ⟨box_keep h hz5 R0, box_keep h hz5 R1, box_keep h hz5 R2, fun j => free_keep h hz5 (RF j)⟩) | (go_at_call 144; refine (impl_ownBig _ _ M _ (Ty.at_more Q4.out mC) (Nat.le_trans HMD.out.1 (by decide))).mono ?_; rintro e w6 ⟨u6, rfl, hb6, f6⟩; obtain ⟨ua, un, uc, rfl⟩ := sh1 (Ty.fresh_at f6); have F6 := Lib.hid f6; clear f6; have HB6 := HB5 _ hb6) | (go_at_call 145; refine (clone_ints _ (limbs D) _ (Ty.at_more G5.out mC) (by have := HMD.out.2; omega)).mono ?_; rintro e w7 ⟨u7, rfl, hb7, f7⟩; obtain ⟨va, vn, vc, rfl⟩ := sh1 (Ty.fresh_at f7); have F7 := Lib.hid f7; clear f7; have HX7 : More w5 w7 := mC; have HB7 := HB5 _ HX7; have hb7 := hb7))
    refine bodyPost_ret (v := .agg #[.bool s, .slice ua un uc, .slice va vn vc]) ?_ rfl ?_
    · simp [results, Tryz.results107, go_sem, *]
    · exact ⟨_, _, rfl, mC2, RatFr.mk HSM.out (Ty.fresh_mono (rat_fA (bs := [w.heap.size + 1]) F6.out F7.out tC tC (by simp; omega) hb6.size) (by omega))⟩
  · rw [sm_no hfit, if_neg (by decide)]
    show Calls _ _ _ _ (fun e w' => ∃ x y, e = .returned (.agg #[.bool false, x, y]) ∧ More w w' ∧ RatFr w.heap.size w' (0, 0) x y)
    by_cases hm1 : (limbs M).length ≤ 24
    · have HMD : Hid ((limbs M).length ≤ 24 ∧ ¬ (limbs D).length ≤ 24) := Lib.hid ⟨hm1, fun h => hfit ⟨hm1, h⟩⟩
      clear hfit hm1
      have HC : ∀ w', Turns [w.heap.size + 1] ((w.alloc (.cells #[.bool s, .slice ao n cap] 24)).alloc (.cells #[.bool false, .slice none 0 0, .slice none 0 0] 26)) w' → w'.cell? ⟨w.heap.size, 0, none⟩ = some (.bool s) ∧ w'.cell? ⟨w.heap.size, 1, none⟩ = some (.slice ao n cap) := fun w' h => ⟨cell_heap (box_new (by simp) (More.un (More.refl _)) 0) (h.block _ (by simp <;> omega) (by simp <;> omega)), cell_heap (box_new (by simp) (More.un (More.refl _)) 1) (h.block _ (by simp <;> omega) (by simp <;> omega))⟩
      have HX : More ((w.alloc (.cells #[.bool s, .slice ao n cap] 24)).alloc (.cells #[.bool false, .slice none 0 0, .slice none 0 0] 26)) ((w.alloc (.cells #[.bool s, .slice ao n cap] 24)).alloc (.cells #[.bool false, .slice none 0 0, .slice none 0 0] 26)) := More.refl _
      have HB : ∀ w', More ((w.alloc (.cells #[.bool s, .slice ao n cap] 24)).alloc (.cells #[.bool false, .slice none 0 0, .slice none 0 0] 26)) w' → w'.cell? ⟨w.heap.size, 0, none⟩ = some (.bool s) ∧ w'.cell? ⟨w.heap.size, 1, none⟩ = some (.slice ao n cap) ∧ (∀ j, w'.frozen? ⟨w.heap.size, j, none⟩ = false) ∧ w'.cell? ⟨w.heap.size + 1, 0, none⟩ = some (.bool false) ∧ w'.cell? ⟨w.heap.size + 1, 1, none⟩ = some (.slice none 0 0) ∧ w'.cell? ⟨w.heap.size + 1, 2, none⟩ = some (.slice none 0 0) ∧ (∀ j, w'.frozen? ⟨w.heap.size + 1, j, none⟩ = false) := fun w' h => ⟨box_new (by simp) (More.un h) 0, box_new (by simp) (More.un h) 1, fun j => box_free (by simp) (More.un h) j, box_new (by simp) h 0, box_new (by simp) h 1, box_new (by simp) h 2, fun j => box_free (by simp) h j⟩
      go_enter Tryz.func107, Tryz.ntmps107
      go_wp2_with (first | (go_at_call 64; (with_reducible refine (impl_isOne (.slice ao' n' cap') d _ (Ty.at_more HV'.out mC)).mono ?_); rintro e w1 ⟨rfl, hb1⟩; have HX1 : More ((w.alloc (.cells #[.bool s, .slice ao n cap] 24)).alloc (.cells #[.bool false, .slice none 0 0, .slice none 0 0] 26)) w1 := mC; have HB1 := HB _ HX1; have hz1 := More.size HX1; (try simp at hz1); have hb1 := hb1; rw [H1.out]) | (go_at_call 90; refine (impl_natGcd _ _ m d _ (Ty.at_more HV.out mC) (Ty.at_more HV'.out mC) (by rw [← HN.out]; have := HL.out; omega) (by rw [← HN'.out]; have := HM.out; omega)).mono ?_; rintro e w2 ⟨u2, rfl, hb2, g2⟩; rw [HGG.out] at g2; obtain ⟨ga, gn, gc, rfl⟩ := sh1 g2; have G2 := Lib.hid g2; clear g2; have HX2 : More ((w.alloc (.cells #[.bool s, .slice ao n cap] 24)).alloc (.cells #[.bool false, .slice none 0 0, .slice none 0 0] 26)) w2 := mC; have HB2 := HB _ HX2; have hz2 := More.size HX2; (try simp at hz2); have hb2 := hb2) | (go_at_call 64; (with_reducible refine (impl_isOne (.slice ga gn gc) G _ (Ty.at_more G2.out mC)).mono ?_); rintro e w3 ⟨rfl, hb3⟩; have HX3 : More ((w.alloc (.cells #[.bool s, .slice ao n cap] 24)).alloc (.cells #[.bool false, .slice none 0 0, .slice none 0 0] 26)) w3 := mC; have HB3 := HB _ HX3; have hz3 := More.size HX3; (try simp at hz3); have hb3 := hb3; rw [H2.out]) | (go_at_call 124; (with_reducible refine (impl_natDiv (.slice ao n cap) (.slice ga gn gc) m G _ (Ty.at_more HV.out mC) (Ty.at_more G2.out mC) (by rw [← HN.out]; have := HL.out; omega) (by rw [← HGG.out]; have := HGL.out; omega) HG0.out).mono ?_); rintro e w4 ⟨q1, r1, rfl, hb4, g4, _⟩; rw [HEM.out] at g4; obtain ⟨q1a, q1c, rfl⟩ := sl_len g4; generalize hq1 : (limbs M).length = q1n at g4 ⊢; have HQ1 := Lib.hid hq1; clear hq1; have hk1 : ¬ (24 : Int) < (q1n : Int) := (by have h5 := HQ1.out; have h6 := HMD.out; omega); have G4 := Lib.hid g4; clear g4; have HX4 : More ((w.alloc (.cells #[.bool s, .slice ao n cap] 24)).alloc (.cells #[.bool false, .slice none 0 0, .slice none 0 0] 26)) w4 := mC; have HB4 := HB _ HX4; have hz4 := More.size HX4; (try simp at hz4); have hb4 := hb4; have hz4 : w.heap.size + 1 < w4.heap.size := (by have h7 := HX4.size; simp at h7; omega)) | (go_at_call 124; (with_reducible refine (impl_natDiv (.slice ao' n' cap') (.slice ga gn gc) d G _ (Ty.at_more HV'.out mC2) (ints_set (Ty.at_more G2.out mC) HB4.2.1 (by simp)) (by rw [← HN'.out]; have := HM.out; omega) (by rw [← HGG.out]; have := HGL.out; omega) HG0.out).mono ?_); rintro e w5 ⟨q2, r2, rfl, hb5, g5, _⟩; rw [HED.out] at g5; obtain ⟨q2a, q2c, rfl⟩ := sl_len g5; generalize hq2 : (limbs D).length = q2n at g5 ⊢; have HQ2 := Lib.hid hq2; clear hq2; have hk2 : (24 : Int) < (q2n : Int) := (by have h5 := HQ2.out; have h6 := HMD.out; have h8 := HQ1.out; omega); have G5 := Lib.hid g5; clear g5; have hz5 : w.heap.size + 1 < w5.heap.size := (by have h7 := hb5.size; simp at h7; omega); have Q4 : Hid (tInts.at w5 [.slice q1a q1n q1c] (limbs M)) := Lib.hid (Ty.at_more (ints_set G4.out HB4.2.1 (by simp)) hb5); have P0 : w5.cell? ⟨w.heap.size, 0, none⟩ = some (.bool s) := box_keep hb5 (by simp <;> omega) ((World.cell?_setCell_other _ _ _ _ (by simp)).trans HB4.1); have P1 : w5.cell? ⟨w.heap.size, 1, none⟩ = some (.slice q1a q1n q1c) := box_keep hb5 (by simp <;> omega) (World.cell?_setCell_same _ _ _ HB4.2.1); have R0 : w5.cell? ⟨w.heap.size + 1, 0, none⟩ = some (.bool false) := box_keep hb5 (by simp <;> omega) ((World.cell?_setCell_other _ _ _ _ (by simp)).trans HB4.2.2.2.1); have R1 : w5.cell? ⟨w.heap.size + 1, 1, none⟩ = some (.slice none 0 0) := box_keep hb5 (by simp <;> omega) ((World.cell?_setCell_other _ _ _ _ (by simp)).trans HB4.2.2.2.2.1); have R2 : w5.cell? ⟨w.heap.size + 1, 2, none⟩ = some (.slice none 0 0) := box_keep hb5 (by simp <;> omega) ((World.cell?_setCell_other _ _ _ _ (by simp)).trans HB4.2.2.2.2.2.1); have RF : ∀ j, w5.frozen? ⟨w.heap.size + 1, j, none⟩ = false := fun j => free_keep hb5 (by simp <;> omega) ((World.frozen?_setCell _ _ _ _).trans (HB4.2.2.2.2.2.2 j)); have HB5 : ∀ W, More w5 W → W.cell? ⟨w.heap.size + 1, 0, none⟩ = some (.bool false) ∧ W.cell? ⟨w.heap.size + 1, 1, none⟩ = some (.slice none 0 0) ∧ W.cell? ⟨w.heap.size + 1, 2, none⟩ = some (.slice none 0 0) ∧ (∀ j, W.frozen? ⟨w.heap.size + 1, j, none⟩ = false) := fun W h => ⟨box_keep h hz5 R0, box_keep h hz5 R1, box_keep h hz5 R2, fun j => free_keep h hz5 (RF j)⟩))
      refine bodyPost_ret (v := .agg #[.bool false, .slice none 0 0, .slice none 0 0]) ?_ rfl ?_
      · simp [results, Tryz.results107, go_sem, *]
      · exact ⟨_, _, rfl, mC2, RatFr.zero⟩
    · have HMD := Lib.hid hm1
      clear hfit hm1
      have HC : ∀ w', Turns [w.heap.size + 1] ((w.alloc (.cells #[.bool s, .slice ao n cap] 24)).alloc (.cells #[.bool false, .slice none 0 0, .slice none 0 0] 26)) w' → w'.cell? ⟨w.heap.size, 0, none⟩ = some (.bool s) ∧ w'.cell? ⟨w.heap.size, 1, none⟩ = some (.slice ao n cap) := fun w' h => ⟨cell_heap (box_new (by simp) (More.un (More.refl _)) 0) (h.block _ (by simp <;> omega) (by simp <;> omega)), cell_heap (box_new (by simp) (More.un (More.refl _)) 1) (h.block _ (by simp <;> omega) (by simp <;> omega))⟩
      have HX : More ((w.alloc (.cells #[.bool s, .slice ao n cap] 24)).alloc (.cells #[.bool false, .slice none 0 0, .slice none 0 0] 26)) ((w.alloc (.cells #[.bool s, .slice ao n cap] 24)).alloc (.cells #[.bool false, .slice none 0 0, .slice none 0 0] 26)) := More.refl _
      have HB : ∀ w', More ((w.alloc (.cells #[.bool s, .slice ao n cap] 24)).alloc (.cells #[.bool false, .slice none 0 0, .slice none 0 0] 26)) w' → w'.cell? ⟨w.heap.size, 0, none⟩ = some (.bool s) ∧ w'.cell? ⟨w.heap.size, 1, none⟩ = some (.slice ao n cap) ∧ (∀ j, w'.frozen? ⟨w.heap.size, j, none⟩ = false) ∧ w'.cell? ⟨w.heap.size + 1, 0, none⟩ = some (.bool false) ∧ w'.cell? ⟨w.heap.size + 1, 1, none⟩ = some (.slice none 0 0) ∧ w'.cell? ⟨w.heap.size + 1, 2, none⟩ = some (.slice none 0 0) ∧ (∀ j, w'.frozen? ⟨w.heap.size + 1, j, none⟩ = false) := fun w' h => ⟨box_new (by simp) (More.un h) 0, box_new (by simp) (More.un h) 1, fun j => box_free (by simp) (More.un h) j, box_new (by simp) h 0, box_new (by simp) h 1, box_new (by simp) h 2, fun j => box_free (by simp) h j⟩
      go_enter Tryz.func107, Tryz.ntmps107
      go_wp2_with (first | (go_at_call 64; (with_reducible refine (impl_isOne (.slice ao' n' cap') d _ (Ty.at_more HV'.out mC)).mono ?_); rintro e w1 ⟨rfl, hb1⟩; have HX1 : More ((w.alloc (.cells #[.bool s, .slice ao n cap] 24)).alloc (.cells #[.bool false, .slice none 0 0, .slice none 0 0] 26)) w1 := mC; have HB1 := HB _ HX1; have hz1 := More.size HX1; (try simp at hz1); have hb1 := hb1; rw [H1.out]) | (go_at_call 90; refine (impl_natGcd _ _ m d _ (Ty.at_more HV.out mC) (Ty.at_more HV'.out mC) (by rw [← HN.out]; have := HL.out; omega) (by rw [← HN'.out]; have := HM.out; omega)).mono ?_; rintro e w2 ⟨u2, rfl, hb2, g2⟩; rw [HGG.out] at g2; obtain ⟨ga, gn, gc, rfl⟩ := sh1 g2; have G2 := Lib.hid g2; clear g2; have HX2 : More ((w.alloc (.cells #[.bool s, .slice ao n cap] 24)).alloc (.cells #[.bool false, .slice none 0 0, .slice none 0 0] 26)) w2 := mC; have HB2 := HB _ HX2; have hz2 := More.size HX2; (try simp at hz2); have hb2 := hb2) | (go_at_call 64; (with_reducible refine (impl_isOne (.slice ga gn gc) G _ (Ty.at_more G2.out mC)).mono ?_); rintro e w3 ⟨rfl, hb3⟩; have HX3 : More ((w.alloc (.cells #[.bool s, .slice ao n cap] 24)).alloc (.cells #[.bool false, .slice none 0 0, .slice none 0 0] 26)) w3 := mC; have HB3 := HB _ HX3; have hz3 := More.size HX3; (try simp at hz3); have hb3 := hb3; rw [H2.out]) | (go_at_call 124; (with_reducible refine (impl_natDiv (.slice ao n cap) (.slice ga gn gc) m G _ (Ty.at_more HV.out mC) (Ty.at_more G2.out mC) (by rw [← HN.out]; have := HL.out; omega) (by rw [← HGG.out]; have := HGL.out; omega) HG0.out).mono ?_); rintro e w4 ⟨q1, r1, rfl, hb4, g4, _⟩; rw [HEM.out] at g4; obtain ⟨q1a, q1c, rfl⟩ := sl_len g4; generalize hq1 : (limbs M).length = q1n at g4 ⊢; have HQ1 := Lib.hid hq1; clear hq1; have hk1 : (24 : Int) < (q1n : Int) := (by have h5 := HQ1.out; have h6 := HMD.out; omega); have G4 := Lib.hid g4; clear g4; have HX4 : More ((w.alloc (.cells #[.bool s, .slice ao n cap] 24)).alloc (.cells #[.bool false, .slice none 0 0, .slice none 0 0] 26)) w4 := mC; have HB4 := HB _ HX4; have hz4 := More.size HX4; (try simp at hz4); have hb4 := hb4; have hz4 : w.heap.size + 1 < w4.heap.size := (by have h7 := HX4.size; simp at h7; omega)) | (go_at_call 124; (with_reducible refine (impl_natDiv (.slice ao' n' cap') (.slice ga gn gc) d G _ (Ty.at_more HV'.out mC2) (ints_set (Ty.at_more G2.out mC) HB4.2.1 (by simp)) (by rw [← HN'.out]; have := HM.out; omega) (by rw [← HGG.out]; have := HGL.out; omega) HG0.out).mono ?_); rintro e w5 ⟨q2, r2, rfl, hb5, g5, _⟩; rw [HED.out] at g5; obtain ⟨q2a, q2c, rfl⟩ := sl_len g5; generalize hq2 : (limbs D).length = q2n at g5 ⊢; have HQ2 := Lib.hid hq2; clear hq2; have hk2 : (0 : Int) ≤ (q2n : Int) := (by have h5 := HQ2.out; have h6 := HMD.out; have h8 := HQ1.out; omega); have G5 := Lib.hid g5; clear g5; have hz5 : w.heap.size + 1 < w5.heap.size := (by have h7 := hb5.size; simp at h7; omega); have Q4 : Hid (tInts.at w5 [.slice q1a q1n q1c] (limbs M)) := Lib.hid (Ty.at_more (ints_set G4.out HB4.2.1 (by simp)) hb5); have P0 : w5.cell? ⟨w.heap.size, 0, none⟩ = some (.bool s) := box_keep hb5 (by simp <;> omega) ((World.cell?_setCell_other _ _ _ _ (by simp)).trans HB4.1); have P1 : w5.cell? ⟨w.heap.size, 1, none⟩ = some (.slice q1a q1n q1c) := box_keep hb5 (by simp <;> omega) (World.cell?_setCell_same _ _ _ HB4.2.1); have R0 : w5.cell? ⟨w.heap.size + 1, 0, none⟩ = some (.bool false) := box_keep hb5 (by simp <;> omega) ((World.cell?_setCell_other _ _ _ _ (by simp)).trans HB4.2.2.2.1); have R1 : w5.cell? ⟨w.heap.size + 1, 1, none⟩ = some (.slice none 0 0) := box_keep hb5 (by simp <;> omega) ((World.cell?_setCell_other _ _ _ _ (by simp)).trans HB4.2.2.2.2.1); have R2 : w5.cell? ⟨w.heap.size + 1, 2, none⟩ = some (.slice none 0 0) := box_keep hb5 (by simp <;> omega) ((World.cell?_setCell_other _ _ _ _ (by simp)).trans HB4.2.2.2.2.2.1); have RF : ∀ j, w5.frozen? ⟨w.heap.size + 1, j, none⟩ = false := fun j => free_keep hb5 (by simp <;> omega) ((World.frozen?_setCell _ _ _ _).trans (HB4.2.2.2.2.2.2 j)); have HB5 : ∀ W, More w5 W → W.cell? ⟨w.heap.size + 1, 0, none⟩ = some (.bool false) ∧ W.cell? ⟨w.heap.size + 1, 1, none⟩ = some (.slice none 0 0) ∧ W.cell? ⟨w.heap.size + 1, 2, none⟩ = some (.slice none 0 0) ∧ (∀ j, W.frozen? ⟨w.heap.size + 1, j, none⟩ = false) := fun W h => ⟨box_keep h hz5 R0, box_keep h hz5 R1, box_keep h hz5 R2, fun j => free_keep h hz5 (RF j)⟩))
      refine bodyPost_ret (v := .agg #[.bool false, .slice none 0 0, .slice none 0 0]) ?_ rfl ?_
      · simp [results, Tryz.results107, go_sem, *]
      · exact ⟨_, _, rfl, mC2, RatFr.zero⟩
end Go.Proofs.YtnbefpfijaimjaaGreatDoor
/- A fraction beside a box that is filled. -/
namespace Go.Proofs.YtnbefpfijaimjaaGreatDoor
open Go.RowKit
theorem RatAt.box3 {w : World} {f : Fr} {u v : Value} {B : Nat} {b : Bool} {p p' : Option Addr} {q t q' t' : Nat} {c0 c1 c2 : Value} (h : RatAt w f u v) (hB : Box3 w B (.bool b) (.slice p q t) (.slice p' q' t')) : RatAt (((w.setCell ⟨B, 0, none⟩ c0).setCell ⟨B, 1, none⟩ c1).setCell ⟨B, 2, none⟩ c2) f u v :=
  ⟨ints_box3 h.1 hB, ints_box3 h.2 hB⟩
end Go.Proofs.YtnbefpfijaimjaaGreatDoor
/- Fractions: the program's sums, products, quotients, comparing. -/
namespace Go.Proofs.YtnbefpfijaimjaaGreatDoor
open Go.RowKit
theorem sgn_of {z : Int} {s : Bool} (h : decide (z < 0) = s) : sgn s z.natAbs = z := by rw [← h, sgn_self]
theorem nat_pos (d : Nat) : decide ((d : Int) < 0) = false := by simp
theorem impl_bigMulZ (x y : Int) (s s' : Bool) (v v' : Value) (w : World) (hs : decide (x < 0) = s) (hs' : decide (y < 0) = s') (hv : tInts.at w [v] (limbs x.natAbs)) (hv' : tInts.at w [v'] (limbs y.natAbs)) (hl : (limbs x.natAbs).length ≤ 1000) (hm : (limbs y.natAbs).length ≤ 1000) :
    Calls Tryz.prog 106 #[.agg #[.bool s, v], .agg #[.bool s', v']] w fun e w' => ∃ u, e = .returned (.agg #[.bool (decide (x * y < 0)), u]) ∧ More w w' ∧ tInts.at w' [u] (limbs (x * y).natAbs) := by
  have h := impl_bigMul s s' v v' x.natAbs y.natAbs w hv hv' hl hm
  rw [sgn_of hs, sgn_of hs', ← Int.natAbs_mul] at h
  exact h
theorem impl_bigAddZ (x y : Int) (s s' : Bool) (v v' : Value) (w : World) (hs : decide (x < 0) = s) (hs' : decide (y < 0) = s') (hv : tInts.at w [v] (limbs x.natAbs)) (hv' : tInts.at w [v'] (limbs y.natAbs)) (hl : (limbs x.natAbs).length ≤ 1000) (hm : (limbs y.natAbs).length ≤ 1000) :
    Calls Tryz.prog 105 #[.agg #[.bool s, v], .agg #[.bool s', v']] w fun e w' => ∃ u, e = .returned (.agg #[.bool (decide (x + y < 0)), u]) ∧ More w w' ∧ tInts.at w' [u] (limbs (x + y).natAbs) := by
  have h := impl_bigAdd s s' v v' x.natAbs y.natAbs w hv hv' hl hm
  rw [sgn_of hs, sgn_of hs'] at h
  exact h
theorem sgn_nz {z : Int} {s : Bool} (h : decide (z < 0) = s) : s = true → z.natAbs ≠ 0 := by
  rintro rfl
  have := of_decide_eq_true h
  omega
theorem impl_ratMakeZ (z : Int) (s : Bool) (v v' : Value) (d : Nat) (w : World) (hs : decide (z < 0) = s) (hd : d ≠ 0) (hv : tInts.at w [v] (limbs z.natAbs)) (hv' : tInts.at w [v'] (limbs d)) (hl : (limbs z.natAbs).length ≤ 1000) (hm : (limbs d).length ≤ 1000) :
    Calls Tryz.prog 107 #[.agg #[.bool s, v], v'] w fun e w' => ∃ x y, e = .returned (.agg #[.bool (decide ((frMk z d).1 < 0)), x, y]) ∧ More w w' ∧ RatFr w.heap.size w' (frMk z d) x y := by
  have h := impl_ratMake s v v' z.natAbs d w (sgn_nz hs) hd hv hv' hl hm
  rw [sgn_of hs] at h
  exact h
theorem len_mulZ {x y : Int} {a b : Nat} (hx : (limbs x.natAbs).length ≤ a) (hy : (limbs y.natAbs).length ≤ b) : (limbs (x * y).natAbs).length ≤ a + b := by
  rw [Int.natAbs_mul]
  have := limbs_len_mul x.natAbs y.natAbs
  omega
theorem len_mulN {x y a b : Nat} (hx : (limbs x).length ≤ a) (hy : (limbs y).length ≤ b) : (limbs (x * y)).length ≤ a + b := by
  have := limbs_len_mul x y
  omega
theorem len_addZ {x y : Int} {a : Nat} (hx : (limbs x.natAbs).length ≤ a) (hy : (limbs y.natAbs).length ≤ a) : (limbs (x + y).natAbs).length ≤ a + 1 := by
  have h1 := limbs_len_mono (Int.natAbs_add_le x y)
  have h2 := limbs_len_add x.natAbs y.natAbs
  omega
theorem len_natZ {d a : Nat} (h : (limbs d).length ≤ a) : (limbs ((d : Int)).natAbs).length ≤ a := by simpa using h
theorem at_natZ {w : World} {v : Value} {d : Nat} (h : tInts.at w [v] (limbs d)) : tInts.at w [v] (limbs ((d : Int)).natAbs) := by simpa using h
set_option maxRecDepth 4000 in
set_option maxHeartbeats 6400000 in
theorem impl_ratMul (f : Fr) (up vp : Value) (g : Fr) (uq vq : Value) (w : World) (hp : RatAt w f up vp) (kp : Vd f) (hq : RatAt w g uq vq) (kq : Vd g) :
    Calls Tryz.prog 74 #[.agg #[.bool (decide (f.1 < 0)), up, vp], .agg #[.bool (decide (g.1 < 0)), uq, vq]] w fun e w' => ∃ x y, e = .returned (.agg #[.bool (decide ((frMul f g).1 < 0)), x, y]) ∧ More w w' ∧ RatFr w.heap.size w' (frMul f g) x y := by
  obtain ⟨pa, pn, pc, pd, pm, pe, rfl, rfl, p1, p2⟩ := hp.shL
  have Hp1 := Lib.hid hp.1; have Hp2 := Lib.hid hp.2; have Hp := Lib.hid hp; have Lp1 := Lib.hid kp.sm1; have Lp2 := Lib.hid kp.sm2; have Np1 := Lib.hid p1; have Np2 := Lib.hid p2; clear hp p1 p2
  obtain ⟨s, zp⟩ : ∃ b, decide (f.1 < 0) = b := ⟨_, rfl⟩
  rw [zp]
  have Sp := Lib.hid zp; clear zp
  obtain ⟨qa, qn, qc, qd, qm, qe, rfl, rfl, q1, q2⟩ := hq.shL
  have Hq1 := Lib.hid hq.1; have Hq2 := Lib.hid hq.2; have Hq := Lib.hid hq; have Lq1 := Lib.hid kq.sm1; have Lq2 := Lib.hid kq.sm2; have Nq1 := Lib.hid q1; have Nq2 := Lib.hid q2; clear hq q1 q2
  obtain ⟨t, zq⟩ : ∃ b, decide (g.1 < 0) = b := ⟨_, rfl⟩
  rw [zq]
  have Sq := Lib.hid zq; clear zq
  by_cases hf0 : f.2 = 0
  · have Kp : Hid (decide (f.2 ≠ 0) = false) := Lib.hid (by simp [hf0])
    rw [frMul, if_pos (.inl hf0)]
    show Calls _ _ _ _ (fun e w' => ∃ x y, e = .returned (.agg #[.bool false, x, y]) ∧ More w w' ∧ RatFr w.heap.size w' (0, 0) x y)
    clear hf0
    have HC : ∀ w', Turns [w.heap.size + 1 + 1] (((w.alloc (.cells #[.bool s, .slice pa pn pc, .slice pd pm pe] 26)).alloc (.cells #[.bool t, .slice qa qn qc, .slice qd qm qe] 26)).alloc (.cells #[.bool false, .slice none 0 0, .slice none 0 0] 26)) w' → w'.cell? ⟨w.heap.size, 0, none⟩ = some (.bool s) ∧ w'.cell? ⟨w.heap.size, 1, none⟩ = some (.slice pa pn pc) ∧ w'.cell? ⟨w.heap.size, 2, none⟩ = some (.slice pd pm pe) ∧ w'.cell? ⟨w.heap.size + 1, 0, none⟩ = some (.bool t) ∧ w'.cell? ⟨w.heap.size + 1, 1, none⟩ = some (.slice qa qn qc) ∧ w'.cell? ⟨w.heap.size + 1, 2, none⟩ = some (.slice qd qm qe) := fun w' h => ⟨cell_heap (box_new (by simp) (More.un (More.un (More.refl _))) 0) (h.block _ (by simp <;> omega) (by simp <;> omega)), cell_heap (box_new (by simp) (More.un (More.un (More.refl _))) 1) (h.block _ (by simp <;> omega) (by simp <;> omega)), cell_heap (box_new (by simp) (More.un (More.un (More.refl _))) 2) (h.block _ (by simp <;> omega) (by simp <;> omega)), cell_heap (box_new (by simp) (More.un (More.refl _)) 0) (h.block _ (by simp <;> omega) (by simp <;> omega)), cell_heap (box_new (by simp) (More.un (More.refl _)) 1) (h.block _ (by simp <;> omega) (by simp <;> omega)), cell_heap (box_new (by simp) (More.un (More.refl _)) 2) (h.block _ (by simp <;> omega) (by simp <;> omega))⟩
    have HX : More (((w.alloc (.cells #[.bool s, .slice pa pn pc, .slice pd pm pe] 26)).alloc (.cells #[.bool t, .slice qa qn qc, .slice qd qm qe] 26)).alloc (.cells #[.bool false, .slice none 0 0, .slice none 0 0] 26)) (((w.alloc (.cells #[.bool s, .slice pa pn pc, .slice pd pm pe] 26)).alloc (.cells #[.bool t, .slice qa qn qc, .slice qd qm qe] 26)).alloc (.cells #[.bool false, .slice none 0 0, .slice none 0 0] 26)) := More.refl _
    have HB : ∀ w', More (((w.alloc (.cells #[.bool s, .slice pa pn pc, .slice pd pm pe] 26)).alloc (.cells #[.bool t, .slice qa qn qc, .slice qd qm qe] 26)).alloc (.cells #[.bool false, .slice none 0 0, .slice none 0 0] 26)) w' → w'.cell? ⟨w.heap.size, 0, none⟩ = some (.bool s) ∧ w'.cell? ⟨w.heap.size, 1, none⟩ = some (.slice pa pn pc) ∧ w'.cell? ⟨w.heap.size, 2, none⟩ = some (.slice pd pm pe) ∧ (∀ j, w'.frozen? ⟨w.heap.size, j, none⟩ = false) ∧ w'.cell? ⟨w.heap.size + 1, 0, none⟩ = some (.bool t) ∧ w'.cell? ⟨w.heap.size + 1, 1, none⟩ = some (.slice qa qn qc) ∧ w'.cell? ⟨w.heap.size + 1, 2, none⟩ = some (.slice qd qm qe) ∧ (∀ j, w'.frozen? ⟨w.heap.size + 1, j, none⟩ = false) ∧ w'.cell? ⟨w.heap.size + 1 + 1, 0, none⟩ = some (.bool false) ∧ w'.cell? ⟨w.heap.size + 1 + 1, 1, none⟩ = some (.slice none 0 0) ∧ w'.cell? ⟨w.heap.size + 1 + 1, 2, none⟩ = some (.slice none 0 0) ∧ (∀ j, w'.frozen? ⟨w.heap.size + 1 + 1, j, none⟩ = false) := fun w' h => ⟨box_new (by simp) (More.un (More.un h)) 0, box_new (by simp) (More.un (More.un h)) 1, box_new (by simp) (More.un (More.un h)) 2, fun j => box_free (by simp) (More.un (More.un h)) j, box_new (by simp) (More.un h) 0, box_new (by simp) (More.un h) 1, box_new (by simp) (More.un h) 2, fun j => box_free (by simp) (More.un h) j, box_new (by simp) h 0, box_new (by simp) h 1, box_new (by simp) h 2, fun j => box_free (by simp) h j⟩
    go_enter Tryz.func74, Tryz.ntmps74
    go_wp2_with (first | (go_at_call 104; (with_reducible refine (impl_isGood s f (.slice pa pn pc) (.slice pd pm pe) _ (Hp.out.more mC)).mono ?_); rintro e w1 ⟨rfl, hb1⟩; have HX1 : More (((w.alloc (.cells #[.bool s, .slice pa pn pc, .slice pd pm pe] 26)).alloc (.cells #[.bool t, .slice qa qn qc, .slice qd qm qe] 26)).alloc (.cells #[.bool false, .slice none 0 0, .slice none 0 0] 26)) w1 := mC; have HB1 := HB _ HX1; have hz1 := More.size HX1; (try simp at hz1); have hb1 := hb1; rw [Kp.out]))
    refine bodyPost_ret (v := .agg #[.bool false, .slice none 0 0, .slice none 0 0]) ?_ rfl ?_
    · simp [results, Tryz.results74, go_sem, *]
    · exact ⟨_, _, rfl, mC2, RatFr.zero⟩
  have Kp : Hid (decide (f.2 ≠ 0) = true) := Lib.hid (by simp [hf0])
  by_cases hg0 : g.2 = 0
  · have Kq : Hid (decide (g.2 ≠ 0) = false) := Lib.hid (by simp [hg0])
    rw [frMul, if_pos (.inr hg0)]
    show Calls _ _ _ _ (fun e w' => ∃ x y, e = .returned (.agg #[.bool false, x, y]) ∧ More w w' ∧ RatFr w.heap.size w' (0, 0) x y)
    clear hf0 hg0
    have HC : ∀ w', Turns [w.heap.size + 1 + 1] (((w.alloc (.cells #[.bool s, .slice pa pn pc, .slice pd pm pe] 26)).alloc (.cells #[.bool t, .slice qa qn qc, .slice qd qm qe] 26)).alloc (.cells #[.bool false, .slice none 0 0, .slice none 0 0] 26)) w' → w'.cell? ⟨w.heap.size, 0, none⟩ = some (.bool s) ∧ w'.cell? ⟨w.heap.size, 1, none⟩ = some (.slice pa pn pc) ∧ w'.cell? ⟨w.heap.size, 2, none⟩ = some (.slice pd pm pe) ∧ w'.cell? ⟨w.heap.size + 1, 0, none⟩ = some (.bool t) ∧ w'.cell? ⟨w.heap.size + 1, 1, none⟩ = some (.slice qa qn qc) ∧ w'.cell? ⟨w.heap.size + 1, 2, none⟩ = some (.slice qd qm qe) := fun w' h => ⟨cell_heap (box_new (by simp) (More.un (More.un (More.refl _))) 0) (h.block _ (by simp <;> omega) (by simp <;> omega)), cell_heap (box_new (by simp) (More.un (More.un (More.refl _))) 1) (h.block _ (by simp <;> omega) (by simp <;> omega)), cell_heap (box_new (by simp) (More.un (More.un (More.refl _))) 2) (h.block _ (by simp <;> omega) (by simp <;> omega)), cell_heap (box_new (by simp) (More.un (More.refl _)) 0) (h.block _ (by simp <;> omega) (by simp <;> omega)), cell_heap (box_new (by simp) (More.un (More.refl _)) 1) (h.block _ (by simp <;> omega) (by simp <;> omega)), cell_heap (box_new (by simp) (More.un (More.refl _)) 2) (h.block _ (by simp <;> omega) (by simp <;> omega))⟩
    have HX : More (((w.alloc (.cells #[.bool s, .slice pa pn pc, .slice pd pm pe] 26)).alloc (.cells #[.bool t, .slice qa qn qc, .slice qd qm qe] 26)).alloc (.cells #[.bool false, .slice none 0 0, .slice none 0 0] 26)) (((w.alloc (.cells #[.bool s, .slice pa pn pc, .slice pd pm pe] 26)).alloc (.cells #[.bool t, .slice qa qn qc, .slice qd qm qe] 26)).alloc (.cells #[.bool false, .slice none 0 0, .slice none 0 0] 26)) := More.refl _
    have HB : ∀ w', More (((w.alloc (.cells #[.bool s, .slice pa pn pc, .slice pd pm pe] 26)).alloc (.cells #[.bool t, .slice qa qn qc, .slice qd qm qe] 26)).alloc (.cells #[.bool false, .slice none 0 0, .slice none 0 0] 26)) w' → w'.cell? ⟨w.heap.size, 0, none⟩ = some (.bool s) ∧ w'.cell? ⟨w.heap.size, 1, none⟩ = some (.slice pa pn pc) ∧ w'.cell? ⟨w.heap.size, 2, none⟩ = some (.slice pd pm pe) ∧ (∀ j, w'.frozen? ⟨w.heap.size, j, none⟩ = false) ∧ w'.cell? ⟨w.heap.size + 1, 0, none⟩ = some (.bool t) ∧ w'.cell? ⟨w.heap.size + 1, 1, none⟩ = some (.slice qa qn qc) ∧ w'.cell? ⟨w.heap.size + 1, 2, none⟩ = some (.slice qd qm qe) ∧ (∀ j, w'.frozen? ⟨w.heap.size + 1, j, none⟩ = false) ∧ w'.cell? ⟨w.heap.size + 1 + 1, 0, none⟩ = some (.bool false) ∧ w'.cell? ⟨w.heap.size + 1 + 1, 1, none⟩ = some (.slice none 0 0) ∧ w'.cell? ⟨w.heap.size + 1 + 1, 2, none⟩ = some (.slice none 0 0) ∧ (∀ j, w'.frozen? ⟨w.heap.size + 1 + 1, j, none⟩ = false) := fun w' h => ⟨box_new (by simp) (More.un (More.un h)) 0, box_new (by simp) (More.un (More.un h)) 1, box_new (by simp) (More.un (More.un h)) 2, fun j => box_free (by simp) (More.un (More.un h)) j, box_new (by simp) (More.un h) 0, box_new (by simp) (More.un h) 1, box_new (by simp) (More.un h) 2, fun j => box_free (by simp) (More.un h) j, box_new (by simp) h 0, box_new (by simp) h 1, box_new (by simp) h 2, fun j => box_free (by simp) h j⟩
    go_enter Tryz.func74, Tryz.ntmps74
    go_wp2_with (first | (go_at_call 104; (with_reducible refine (impl_isGood s f (.slice pa pn pc) (.slice pd pm pe) _ (Hp.out.more mC)).mono ?_); rintro e w1 ⟨rfl, hb1⟩; have HX1 : More (((w.alloc (.cells #[.bool s, .slice pa pn pc, .slice pd pm pe] 26)).alloc (.cells #[.bool t, .slice qa qn qc, .slice qd qm qe] 26)).alloc (.cells #[.bool false, .slice none 0 0, .slice none 0 0] 26)) w1 := mC; have HB1 := HB _ HX1; have hz1 := More.size HX1; (try simp at hz1); have hb1 := hb1; rw [Kp.out]) | (go_at_call 104; (with_reducible refine (impl_isGood t g (.slice qa qn qc) (.slice qd qm qe) _ (Hq.out.more mC)).mono ?_); rintro e w2 ⟨rfl, hb2⟩; have HX2 : More (((w.alloc (.cells #[.bool s, .slice pa pn pc, .slice pd pm pe] 26)).alloc (.cells #[.bool t, .slice qa qn qc, .slice qd qm qe] 26)).alloc (.cells #[.bool false, .slice none 0 0, .slice none 0 0] 26)) w2 := mC; have HB2 := HB _ HX2; have hz2 := More.size HX2; (try simp at hz2); have hb2 := hb2; rw [Kq.out]))
    refine bodyPost_ret (v := .agg #[.bool false, .slice none 0 0, .slice none 0 0]) ?_ rfl ?_
    · simp [results, Tryz.results74, go_sem, *]
    · exact ⟨_, _, rfl, mC2, RatFr.zero⟩
  have Kq : Hid (decide (g.2 ≠ 0) = true) := Lib.hid (by simp [hg0])
  rw [frMul, if_neg (fun h => h.elim hf0 hg0)]
  have HD0 : Hid (f.2 * g.2 ≠ 0) := Lib.hid (Nat.mul_ne_zero hf0 hg0)
  clear hf0 hg0
  have HC : ∀ w', Turns [w.heap.size + 1 + 1] (((w.alloc (.cells #[.bool s, .slice pa pn pc, .slice pd pm pe] 26)).alloc (.cells #[.bool t, .slice qa qn qc, .slice qd qm qe] 26)).alloc (.cells #[.bool false, .slice none 0 0, .slice none 0 0] 26)) w' → w'.cell? ⟨w.heap.size, 0, none⟩ = some (.bool s) ∧ w'.cell? ⟨w.heap.size, 1, none⟩ = some (.slice pa pn pc) ∧ w'.cell? ⟨w.heap.size, 2, none⟩ = some (.slice pd pm pe) ∧ w'.cell? ⟨w.heap.size + 1, 0, none⟩ = some (.bool t) ∧ w'.cell? ⟨w.heap.size + 1, 1, none⟩ = some (.slice qa qn qc) ∧ w'.cell? ⟨w.heap.size + 1, 2, none⟩ = some (.slice qd qm qe) := fun w' h => ⟨cell_heap (box_new (by simp) (More.un (More.un (More.refl _))) 0) (h.block _ (by simp <;> omega) (by simp <;> omega)), cell_heap (box_new (by simp) (More.un (More.un (More.refl _))) 1) (h.block _ (by simp <;> omega) (by simp <;> omega)), cell_heap (box_new (by simp) (More.un (More.un (More.refl _))) 2) (h.block _ (by simp <;> omega) (by simp <;> omega)), cell_heap (box_new (by simp) (More.un (More.refl _)) 0) (h.block _ (by simp <;> omega) (by simp <;> omega)), cell_heap (box_new (by simp) (More.un (More.refl _)) 1) (h.block _ (by simp <;> omega) (by simp <;> omega)), cell_heap (box_new (by simp) (More.un (More.refl _)) 2) (h.block _ (by simp <;> omega) (by simp <;> omega))⟩
  have HX : More (((w.alloc (.cells #[.bool s, .slice pa pn pc, .slice pd pm pe] 26)).alloc (.cells #[.bool t, .slice qa qn qc, .slice qd qm qe] 26)).alloc (.cells #[.bool false, .slice none 0 0, .slice none 0 0] 26)) (((w.alloc (.cells #[.bool s, .slice pa pn pc, .slice pd pm pe] 26)).alloc (.cells #[.bool t, .slice qa qn qc, .slice qd qm qe] 26)).alloc (.cells #[.bool false, .slice none 0 0, .slice none 0 0] 26)) := More.refl _
  have HB : ∀ w', More (((w.alloc (.cells #[.bool s, .slice pa pn pc, .slice pd pm pe] 26)).alloc (.cells #[.bool t, .slice qa qn qc, .slice qd qm qe] 26)).alloc (.cells #[.bool false, .slice none 0 0, .slice none 0 0] 26)) w' → w'.cell? ⟨w.heap.size, 0, none⟩ = some (.bool s) ∧ w'.cell? ⟨w.heap.size, 1, none⟩ = some (.slice pa pn pc) ∧ w'.cell? ⟨w.heap.size, 2, none⟩ = some (.slice pd pm pe) ∧ (∀ j, w'.frozen? ⟨w.heap.size, j, none⟩ = false) ∧ w'.cell? ⟨w.heap.size + 1, 0, none⟩ = some (.bool t) ∧ w'.cell? ⟨w.heap.size + 1, 1, none⟩ = some (.slice qa qn qc) ∧ w'.cell? ⟨w.heap.size + 1, 2, none⟩ = some (.slice qd qm qe) ∧ (∀ j, w'.frozen? ⟨w.heap.size + 1, j, none⟩ = false) ∧ w'.cell? ⟨w.heap.size + 1 + 1, 0, none⟩ = some (.bool false) ∧ w'.cell? ⟨w.heap.size + 1 + 1, 1, none⟩ = some (.slice none 0 0) ∧ w'.cell? ⟨w.heap.size + 1 + 1, 2, none⟩ = some (.slice none 0 0) ∧ (∀ j, w'.frozen? ⟨w.heap.size + 1 + 1, j, none⟩ = false) := fun w' h => ⟨box_new (by simp) (More.un (More.un h)) 0, box_new (by simp) (More.un (More.un h)) 1, box_new (by simp) (More.un (More.un h)) 2, fun j => box_free (by simp) (More.un (More.un h)) j, box_new (by simp) (More.un h) 0, box_new (by simp) (More.un h) 1, box_new (by simp) (More.un h) 2, fun j => box_free (by simp) (More.un h) j, box_new (by simp) h 0, box_new (by simp) h 1, box_new (by simp) h 2, fun j => box_free (by simp) h j⟩
  go_enter Tryz.func74, Tryz.ntmps74
  go_wp2_with (first | (go_at_call 104; (with_reducible refine (impl_isGood s f (.slice pa pn pc) (.slice pd pm pe) _ (Hp.out.more mC)).mono ?_); rintro e w1 ⟨rfl, hb1⟩; have HX1 : More (((w.alloc (.cells #[.bool s, .slice pa pn pc, .slice pd pm pe] 26)).alloc (.cells #[.bool t, .slice qa qn qc, .slice qd qm qe] 26)).alloc (.cells #[.bool false, .slice none 0 0, .slice none 0 0] 26)) w1 := mC; have HB1 := HB _ HX1; have hz1 := More.size HX1; (try simp at hz1); have hb1 := hb1; rw [Kp.out]) | (go_at_call 104; (with_reducible refine (impl_isGood t g (.slice qa qn qc) (.slice qd qm qe) _ (Hq.out.more mC)).mono ?_); rintro e w2 ⟨rfl, hb2⟩; have HX2 : More (((w.alloc (.cells #[.bool s, .slice pa pn pc, .slice pd pm pe] 26)).alloc (.cells #[.bool t, .slice qa qn qc, .slice qd qm qe] 26)).alloc (.cells #[.bool false, .slice none 0 0, .slice none 0 0] 26)) w2 := mC; have HB2 := HB _ HX2; have hz2 := More.size HX2; (try simp at hz2); have hb2 := hb2; rw [Kq.out]))
  go_region_held3 (fun w' => Turns [w.heap.size + 1 + 1] (((w.alloc (.cells #[.bool s, .slice pa pn pc, .slice pd pm pe] 26)).alloc (.cells #[.bool t, .slice qa qn qc, .slice qd qm qe] 26)).alloc (.cells #[.bool false, .slice none 0 0, .slice none 0 0] 26)) w') (first | exact tC | exact mC2) (first | (go_at_call 106; (with_reducible refine (impl_bigMulZ f.1 g.1 s t (.slice pa pn pc) (.slice qa qn qc) _ Sp.out Sq.out (Ty.at_more Hp1.out mC) (Ty.at_more Hq1.out mC) (Nat.le_trans Lp1.out (by decide)) (Nat.le_trans Lq1.out (by decide))).mono ?_); rintro e w3 ⟨u3, rfl, hb3, g3⟩; obtain ⟨x3a, x3n, x3c, rfl⟩ := sh1 g3; have G3 := Lib.hid g3; clear g3; have HX3 : More (((w.alloc (.cells #[.bool s, .slice pa pn pc, .slice pd pm pe] 26)).alloc (.cells #[.bool t, .slice qa qn qc, .slice qd qm qe] 26)).alloc (.cells #[.bool false, .slice none 0 0, .slice none 0 0] 26)) w3 := mC; have HB3 := HB _ HX3; have hz3 := More.size HX3; (try simp at hz3); have hb3 := hb3) | (go_at_call 108; (with_reducible refine (impl_natMul (.slice pd pm pe) (.slice qd qm qe) f.2 g.2 _ (Ty.at_more Hp2.out mC) (Ty.at_more Hq2.out mC) (Nat.le_trans Lp2.out (by decide)) (Nat.le_trans Lq2.out (by decide))).mono ?_); rintro e w4 ⟨u4, rfl, hb4, g4⟩; obtain ⟨x4a, x4n, x4c, rfl⟩ := sh1 g4; have G4 := Lib.hid g4; clear g4; have HX4 : More (((w.alloc (.cells #[.bool s, .slice pa pn pc, .slice pd pm pe] 26)).alloc (.cells #[.bool t, .slice qa qn qc, .slice qd qm qe] 26)).alloc (.cells #[.bool false, .slice none 0 0, .slice none 0 0] 26)) w4 := mC; have HB4 := HB _ HX4; have hz4 := More.size HX4; (try simp at hz4); have hb4 := hb4) | (go_at_call 107; (with_reducible refine (impl_ratMakeZ (f.1 * g.1) _ (.slice x3a x3n x3c) (.slice x4a x4n x4c) (f.2 * g.2) _ rfl HD0.out (Ty.at_more G3.out mC) (Ty.at_more G4.out mC) (Nat.le_trans (len_mulZ Lp1.out Lq1.out) (by decide)) (Nat.le_trans (len_mulN Lp2.out Lq2.out) (by decide))).mono ?_); rintro e w5 ⟨x5, y5, rfl, hb5, f5⟩; obtain ⟨r5a, r5n, r5c, r5d, r5m, r5e, rfl, rfl⟩ := f5.at.sh; have F5 : Hid (RatFr (((w.alloc (.cells #[.bool s, .slice pa pn pc, .slice pd pm pe] 26)).alloc (.cells #[.bool t, .slice qa qn qc, .slice qd qm qe] 26)).alloc (.cells #[.bool false, .slice none 0 0, .slice none 0 0] 26)).heap.size w5 (frMk (f.1 * g.1) (f.2 * g.2)) _ _) := Lib.hid (RatFr.mono f5 (More.size mC)); clear f5; have HX5 : More (((w.alloc (.cells #[.bool s, .slice pa pn pc, .slice pd pm pe] 26)).alloc (.cells #[.bool t, .slice qa qn qc, .slice qd qm qe] 26)).alloc (.cells #[.bool false, .slice none 0 0, .slice none 0 0] 26)) w5 := mC; have HB5 := HB _ HX5; have hz5 := More.size HX5; (try simp at hz5); have hb5 := hb5))
  all_goals
    go_wp2_with fail
    refine bodyPost_ret (v := .agg #[.bool (decide ((frMk (f.1 * g.1) (f.2 * g.2)).1 < 0)), .slice r5a r5n r5c, .slice r5d r5m r5e]) ?_ rfl ?_
    · simp [results, Tryz.results74, go_sem, *]
    · exact ⟨_, _, rfl, mC2, (F5.out.turns (bs := [w.heap.size + 1 + 1]) tC (by simp)).mono (by simp; try omega)⟩
set_option maxRecDepth 4000 in
set_option maxHeartbeats 6400000 in
theorem impl_ratAdd (f : Fr) (up vp : Value) (g : Fr) (uq vq : Value) (w : World) (hp : RatAt w f up vp) (kp : Vd f) (hq : RatAt w g uq vq) (kq : Vd g) :
    Calls Tryz.prog 73 #[.agg #[.bool (decide (f.1 < 0)), up, vp], .agg #[.bool (decide (g.1 < 0)), uq, vq]] w fun e w' => ∃ x y, e = .returned (.agg #[.bool (decide ((frAdd f g).1 < 0)), x, y]) ∧ More w w' ∧ RatFr w.heap.size w' (frAdd f g) x y := by
  obtain ⟨pa, pn, pc, pd, pm, pe, rfl, rfl, p1, p2⟩ := hp.shL
  have Hp1 := Lib.hid hp.1; have Hp2 := Lib.hid hp.2; have Hp := Lib.hid hp; have Lp1 := Lib.hid kp.sm1; have Lp2 := Lib.hid kp.sm2; have Np1 := Lib.hid p1; have Np2 := Lib.hid p2; clear hp p1 p2
  obtain ⟨s, zp⟩ : ∃ b, decide (f.1 < 0) = b := ⟨_, rfl⟩
  rw [zp]
  have Sp := Lib.hid zp; clear zp
  obtain ⟨qa, qn, qc, qd, qm, qe, rfl, rfl, q1, q2⟩ := hq.shL
  have Hq1 := Lib.hid hq.1; have Hq2 := Lib.hid hq.2; have Hq := Lib.hid hq; have Lq1 := Lib.hid kq.sm1; have Lq2 := Lib.hid kq.sm2; have Nq1 := Lib.hid q1; have Nq2 := Lib.hid q2; clear hq q1 q2
  obtain ⟨t, zq⟩ : ∃ b, decide (g.1 < 0) = b := ⟨_, rfl⟩
  rw [zq]
  have Sq := Lib.hid zq; clear zq
  by_cases hf0 : f.2 = 0
  · have Kp : Hid (decide (f.2 ≠ 0) = false) := Lib.hid (by simp [hf0])
    rw [frAdd, if_pos (.inl hf0)]
    show Calls _ _ _ _ (fun e w' => ∃ x y, e = .returned (.agg #[.bool false, x, y]) ∧ More w w' ∧ RatFr w.heap.size w' (0, 0) x y)
    clear hf0
    have HC : ∀ w', Turns [w.heap.size + 1 + 1] (((w.alloc (.cells #[.bool s, .slice pa pn pc, .slice pd pm pe] 26)).alloc (.cells #[.bool t, .slice qa qn qc, .slice qd qm qe] 26)).alloc (.cells #[.bool false, .slice none 0 0, .slice none 0 0] 26)) w' → w'.cell? ⟨w.heap.size, 0, none⟩ = some (.bool s) ∧ w'.cell? ⟨w.heap.size, 1, none⟩ = some (.slice pa pn pc) ∧ w'.cell? ⟨w.heap.size, 2, none⟩ = some (.slice pd pm pe) ∧ w'.cell? ⟨w.heap.size + 1, 0, none⟩ = some (.bool t) ∧ w'.cell? ⟨w.heap.size + 1, 1, none⟩ = some (.slice qa qn qc) ∧ w'.cell? ⟨w.heap.size + 1, 2, none⟩ = some (.slice qd qm qe) := fun w' h => ⟨cell_heap (box_new (by simp) (More.un (More.un (More.refl _))) 0) (h.block _ (by simp <;> omega) (by simp <;> omega)), cell_heap (box_new (by simp) (More.un (More.un (More.refl _))) 1) (h.block _ (by simp <;> omega) (by simp <;> omega)), cell_heap (box_new (by simp) (More.un (More.un (More.refl _))) 2) (h.block _ (by simp <;> omega) (by simp <;> omega)), cell_heap (box_new (by simp) (More.un (More.refl _)) 0) (h.block _ (by simp <;> omega) (by simp <;> omega)), cell_heap (box_new (by simp) (More.un (More.refl _)) 1) (h.block _ (by simp <;> omega) (by simp <;> omega)), cell_heap (box_new (by simp) (More.un (More.refl _)) 2) (h.block _ (by simp <;> omega) (by simp <;> omega))⟩
    have HX : More (((w.alloc (.cells #[.bool s, .slice pa pn pc, .slice pd pm pe] 26)).alloc (.cells #[.bool t, .slice qa qn qc, .slice qd qm qe] 26)).alloc (.cells #[.bool false, .slice none 0 0, .slice none 0 0] 26)) (((w.alloc (.cells #[.bool s, .slice pa pn pc, .slice pd pm pe] 26)).alloc (.cells #[.bool t, .slice qa qn qc, .slice qd qm qe] 26)).alloc (.cells #[.bool false, .slice none 0 0, .slice none 0 0] 26)) := More.refl _
    have HB : ∀ w', More (((w.alloc (.cells #[.bool s, .slice pa pn pc, .slice pd pm pe] 26)).alloc (.cells #[.bool t, .slice qa qn qc, .slice qd qm qe] 26)).alloc (.cells #[.bool false, .slice none 0 0, .slice none 0 0] 26)) w' → w'.cell? ⟨w.heap.size, 0, none⟩ = some (.bool s) ∧ w'.cell? ⟨w.heap.size, 1, none⟩ = some (.slice pa pn pc) ∧ w'.cell? ⟨w.heap.size, 2, none⟩ = some (.slice pd pm pe) ∧ (∀ j, w'.frozen? ⟨w.heap.size, j, none⟩ = false) ∧ w'.cell? ⟨w.heap.size + 1, 0, none⟩ = some (.bool t) ∧ w'.cell? ⟨w.heap.size + 1, 1, none⟩ = some (.slice qa qn qc) ∧ w'.cell? ⟨w.heap.size + 1, 2, none⟩ = some (.slice qd qm qe) ∧ (∀ j, w'.frozen? ⟨w.heap.size + 1, j, none⟩ = false) ∧ w'.cell? ⟨w.heap.size + 1 + 1, 0, none⟩ = some (.bool false) ∧ w'.cell? ⟨w.heap.size + 1 + 1, 1, none⟩ = some (.slice none 0 0) ∧ w'.cell? ⟨w.heap.size + 1 + 1, 2, none⟩ = some (.slice none 0 0) ∧ (∀ j, w'.frozen? ⟨w.heap.size + 1 + 1, j, none⟩ = false) := fun w' h => ⟨box_new (by simp) (More.un (More.un h)) 0, box_new (by simp) (More.un (More.un h)) 1, box_new (by simp) (More.un (More.un h)) 2, fun j => box_free (by simp) (More.un (More.un h)) j, box_new (by simp) (More.un h) 0, box_new (by simp) (More.un h) 1, box_new (by simp) (More.un h) 2, fun j => box_free (by simp) (More.un h) j, box_new (by simp) h 0, box_new (by simp) h 1, box_new (by simp) h 2, fun j => box_free (by simp) h j⟩
    go_enter Tryz.func73, Tryz.ntmps73
    go_wp2_with (first | (go_at_call 104; (with_reducible refine (impl_isGood s f (.slice pa pn pc) (.slice pd pm pe) _ (Hp.out.more mC)).mono ?_); rintro e w1 ⟨rfl, hb1⟩; have HX1 : More (((w.alloc (.cells #[.bool s, .slice pa pn pc, .slice pd pm pe] 26)).alloc (.cells #[.bool t, .slice qa qn qc, .slice qd qm qe] 26)).alloc (.cells #[.bool false, .slice none 0 0, .slice none 0 0] 26)) w1 := mC; have HB1 := HB _ HX1; have hz1 := More.size HX1; (try simp at hz1); have hb1 := hb1; rw [Kp.out]))
    refine bodyPost_ret (v := .agg #[.bool false, .slice none 0 0, .slice none 0 0]) ?_ rfl ?_
    · simp [results, Tryz.results73, go_sem, *]
    · exact ⟨_, _, rfl, mC2, RatFr.zero⟩
  have Kp : Hid (decide (f.2 ≠ 0) = true) := Lib.hid (by simp [hf0])
  by_cases hg0 : g.2 = 0
  · have Kq : Hid (decide (g.2 ≠ 0) = false) := Lib.hid (by simp [hg0])
    rw [frAdd, if_pos (.inr hg0)]
    show Calls _ _ _ _ (fun e w' => ∃ x y, e = .returned (.agg #[.bool false, x, y]) ∧ More w w' ∧ RatFr w.heap.size w' (0, 0) x y)
    clear hf0 hg0
    have HC : ∀ w', Turns [w.heap.size + 1 + 1] (((w.alloc (.cells #[.bool s, .slice pa pn pc, .slice pd pm pe] 26)).alloc (.cells #[.bool t, .slice qa qn qc, .slice qd qm qe] 26)).alloc (.cells #[.bool false, .slice none 0 0, .slice none 0 0] 26)) w' → w'.cell? ⟨w.heap.size, 0, none⟩ = some (.bool s) ∧ w'.cell? ⟨w.heap.size, 1, none⟩ = some (.slice pa pn pc) ∧ w'.cell? ⟨w.heap.size, 2, none⟩ = some (.slice pd pm pe) ∧ w'.cell? ⟨w.heap.size + 1, 0, none⟩ = some (.bool t) ∧ w'.cell? ⟨w.heap.size + 1, 1, none⟩ = some (.slice qa qn qc) ∧ w'.cell? ⟨w.heap.size + 1, 2, none⟩ = some (.slice qd qm qe) := fun w' h => ⟨cell_heap (box_new (by simp) (More.un (More.un (More.refl _))) 0) (h.block _ (by simp <;> omega) (by simp <;> omega)), cell_heap (box_new (by simp) (More.un (More.un (More.refl _))) 1) (h.block _ (by simp <;> omega) (by simp <;> omega)), cell_heap (box_new (by simp) (More.un (More.un (More.refl _))) 2) (h.block _ (by simp <;> omega) (by simp <;> omega)), cell_heap (box_new (by simp) (More.un (More.refl _)) 0) (h.block _ (by simp <;> omega) (by simp <;> omega)), cell_heap (box_new (by simp) (More.un (More.refl _)) 1) (h.block _ (by simp <;> omega) (by simp <;> omega)), cell_heap (box_new (by simp) (More.un (More.refl _)) 2) (h.block _ (by simp <;> omega) (by simp <;> omega))⟩
    have HX : More (((w.alloc (.cells #[.bool s, .slice pa pn pc, .slice pd pm pe] 26)).alloc (.cells #[.bool t, .slice qa qn qc, .slice qd qm qe] 26)).alloc (.cells #[.bool false, .slice none 0 0, .slice none 0 0] 26)) (((w.alloc (.cells #[.bool s, .slice pa pn pc, .slice pd pm pe] 26)).alloc (.cells #[.bool t, .slice qa qn qc, .slice qd qm qe] 26)).alloc (.cells #[.bool false, .slice none 0 0, .slice none 0 0] 26)) := More.refl _
    have HB : ∀ w', More (((w.alloc (.cells #[.bool s, .slice pa pn pc, .slice pd pm pe] 26)).alloc (.cells #[.bool t, .slice qa qn qc, .slice qd qm qe] 26)).alloc (.cells #[.bool false, .slice none 0 0, .slice none 0 0] 26)) w' → w'.cell? ⟨w.heap.size, 0, none⟩ = some (.bool s) ∧ w'.cell? ⟨w.heap.size, 1, none⟩ = some (.slice pa pn pc) ∧ w'.cell? ⟨w.heap.size, 2, none⟩ = some (.slice pd pm pe) ∧ (∀ j, w'.frozen? ⟨w.heap.size, j, none⟩ = false) ∧ w'.cell? ⟨w.heap.size + 1, 0, none⟩ = some (.bool t) ∧ w'.cell? ⟨w.heap.size + 1, 1, none⟩ = some (.slice qa qn qc) ∧ w'.cell? ⟨w.heap.size + 1, 2, none⟩ = some (.slice qd qm qe) ∧ (∀ j, w'.frozen? ⟨w.heap.size + 1, j, none⟩ = false) ∧ w'.cell? ⟨w.heap.size + 1 + 1, 0, none⟩ = some (.bool false) ∧ w'.cell? ⟨w.heap.size + 1 + 1, 1, none⟩ = some (.slice none 0 0) ∧ w'.cell? ⟨w.heap.size + 1 + 1, 2, none⟩ = some (.slice none 0 0) ∧ (∀ j, w'.frozen? ⟨w.heap.size + 1 + 1, j, none⟩ = false) := fun w' h => ⟨box_new (by simp) (More.un (More.un h)) 0, box_new (by simp) (More.un (More.un h)) 1, box_new (by simp) (More.un (More.un h)) 2, fun j => box_free (by simp) (More.un (More.un h)) j, box_new (by simp) (More.un h) 0, box_new (by simp) (More.un h) 1, box_new (by simp) (More.un h) 2, fun j => box_free (by simp) (More.un h) j, box_new (by simp) h 0, box_new (by simp) h 1, box_new (by simp) h 2, fun j => box_free (by simp) h j⟩
    go_enter Tryz.func73, Tryz.ntmps73
    go_wp2_with (first | (go_at_call 104; (with_reducible refine (impl_isGood s f (.slice pa pn pc) (.slice pd pm pe) _ (Hp.out.more mC)).mono ?_); rintro e w1 ⟨rfl, hb1⟩; have HX1 : More (((w.alloc (.cells #[.bool s, .slice pa pn pc, .slice pd pm pe] 26)).alloc (.cells #[.bool t, .slice qa qn qc, .slice qd qm qe] 26)).alloc (.cells #[.bool false, .slice none 0 0, .slice none 0 0] 26)) w1 := mC; have HB1 := HB _ HX1; have hz1 := More.size HX1; (try simp at hz1); have hb1 := hb1; rw [Kp.out]) | (go_at_call 104; (with_reducible refine (impl_isGood t g (.slice qa qn qc) (.slice qd qm qe) _ (Hq.out.more mC)).mono ?_); rintro e w2 ⟨rfl, hb2⟩; have HX2 : More (((w.alloc (.cells #[.bool s, .slice pa pn pc, .slice pd pm pe] 26)).alloc (.cells #[.bool t, .slice qa qn qc, .slice qd qm qe] 26)).alloc (.cells #[.bool false, .slice none 0 0, .slice none 0 0] 26)) w2 := mC; have HB2 := HB _ HX2; have hz2 := More.size HX2; (try simp at hz2); have hb2 := hb2; rw [Kq.out]))
    refine bodyPost_ret (v := .agg #[.bool false, .slice none 0 0, .slice none 0 0]) ?_ rfl ?_
    · simp [results, Tryz.results73, go_sem, *]
    · exact ⟨_, _, rfl, mC2, RatFr.zero⟩
  have Kq : Hid (decide (g.2 ≠ 0) = true) := Lib.hid (by simp [hg0])
  rw [frAdd, if_neg (fun h => h.elim hf0 hg0)]
  have HD0 : Hid (f.2 * g.2 ≠ 0) := Lib.hid (Nat.mul_ne_zero hf0 hg0)
  have Hp3 := Lib.hid (at_natZ Hp2.out); have Hq3 := Lib.hid (at_natZ Hq2.out); have Lp3 := Lib.hid (len_natZ Lp2.out); have Lq3 := Lib.hid (len_natZ Lq2.out)
  clear hf0 hg0
  have HC : ∀ w', Turns [w.heap.size + 1 + 1] (((w.alloc (.cells #[.bool s, .slice pa pn pc, .slice pd pm pe] 26)).alloc (.cells #[.bool t, .slice qa qn qc, .slice qd qm qe] 26)).alloc (.cells #[.bool false, .slice none 0 0, .slice none 0 0] 26)) w' → w'.cell? ⟨w.heap.size, 0, none⟩ = some (.bool s) ∧ w'.cell? ⟨w.heap.size, 1, none⟩ = some (.slice pa pn pc) ∧ w'.cell? ⟨w.heap.size, 2, none⟩ = some (.slice pd pm pe) ∧ w'.cell? ⟨w.heap.size + 1, 0, none⟩ = some (.bool t) ∧ w'.cell? ⟨w.heap.size + 1, 1, none⟩ = some (.slice qa qn qc) ∧ w'.cell? ⟨w.heap.size + 1, 2, none⟩ = some (.slice qd qm qe) := fun w' h => ⟨cell_heap (box_new (by simp) (More.un (More.un (More.refl _))) 0) (h.block _ (by simp <;> omega) (by simp <;> omega)), cell_heap (box_new (by simp) (More.un (More.un (More.refl _))) 1) (h.block _ (by simp <;> omega) (by simp <;> omega)), cell_heap (box_new (by simp) (More.un (More.un (More.refl _))) 2) (h.block _ (by simp <;> omega) (by simp <;> omega)), cell_heap (box_new (by simp) (More.un (More.refl _)) 0) (h.block _ (by simp <;> omega) (by simp <;> omega)), cell_heap (box_new (by simp) (More.un (More.refl _)) 1) (h.block _ (by simp <;> omega) (by simp <;> omega)), cell_heap (box_new (by simp) (More.un (More.refl _)) 2) (h.block _ (by simp <;> omega) (by simp <;> omega))⟩
  have HX : More (((w.alloc (.cells #[.bool s, .slice pa pn pc, .slice pd pm pe] 26)).alloc (.cells #[.bool t, .slice qa qn qc, .slice qd qm qe] 26)).alloc (.cells #[.bool false, .slice none 0 0, .slice none 0 0] 26)) (((w.alloc (.cells #[.bool s, .slice pa pn pc, .slice pd pm pe] 26)).alloc (.cells #[.bool t, .slice qa qn qc, .slice qd qm qe] 26)).alloc (.cells #[.bool false, .slice none 0 0, .slice none 0 0] 26)) := More.refl _
  have HB : ∀ w', More (((w.alloc (.cells #[.bool s, .slice pa pn pc, .slice pd pm pe] 26)).alloc (.cells #[.bool t, .slice qa qn qc, .slice qd qm qe] 26)).alloc (.cells #[.bool false, .slice none 0 0, .slice none 0 0] 26)) w' → w'.cell? ⟨w.heap.size, 0, none⟩ = some (.bool s) ∧ w'.cell? ⟨w.heap.size, 1, none⟩ = some (.slice pa pn pc) ∧ w'.cell? ⟨w.heap.size, 2, none⟩ = some (.slice pd pm pe) ∧ (∀ j, w'.frozen? ⟨w.heap.size, j, none⟩ = false) ∧ w'.cell? ⟨w.heap.size + 1, 0, none⟩ = some (.bool t) ∧ w'.cell? ⟨w.heap.size + 1, 1, none⟩ = some (.slice qa qn qc) ∧ w'.cell? ⟨w.heap.size + 1, 2, none⟩ = some (.slice qd qm qe) ∧ (∀ j, w'.frozen? ⟨w.heap.size + 1, j, none⟩ = false) ∧ w'.cell? ⟨w.heap.size + 1 + 1, 0, none⟩ = some (.bool false) ∧ w'.cell? ⟨w.heap.size + 1 + 1, 1, none⟩ = some (.slice none 0 0) ∧ w'.cell? ⟨w.heap.size + 1 + 1, 2, none⟩ = some (.slice none 0 0) ∧ (∀ j, w'.frozen? ⟨w.heap.size + 1 + 1, j, none⟩ = false) := fun w' h => ⟨box_new (by simp) (More.un (More.un h)) 0, box_new (by simp) (More.un (More.un h)) 1, box_new (by simp) (More.un (More.un h)) 2, fun j => box_free (by simp) (More.un (More.un h)) j, box_new (by simp) (More.un h) 0, box_new (by simp) (More.un h) 1, box_new (by simp) (More.un h) 2, fun j => box_free (by simp) (More.un h) j, box_new (by simp) h 0, box_new (by simp) h 1, box_new (by simp) h 2, fun j => box_free (by simp) h j⟩
  go_enter Tryz.func73, Tryz.ntmps73
  go_wp2_with (first | (go_at_call 104; (with_reducible refine (impl_isGood s f (.slice pa pn pc) (.slice pd pm pe) _ (Hp.out.more mC)).mono ?_); rintro e w1 ⟨rfl, hb1⟩; have HX1 : More (((w.alloc (.cells #[.bool s, .slice pa pn pc, .slice pd pm pe] 26)).alloc (.cells #[.bool t, .slice qa qn qc, .slice qd qm qe] 26)).alloc (.cells #[.bool false, .slice none 0 0, .slice none 0 0] 26)) w1 := mC; have HB1 := HB _ HX1; have hz1 := More.size HX1; (try simp at hz1); have hb1 := hb1; rw [Kp.out]) | (go_at_call 104; (with_reducible refine (impl_isGood t g (.slice qa qn qc) (.slice qd qm qe) _ (Hq.out.more mC)).mono ?_); rintro e w2 ⟨rfl, hb2⟩; have HX2 : More (((w.alloc (.cells #[.bool s, .slice pa pn pc, .slice pd pm pe] 26)).alloc (.cells #[.bool t, .slice qa qn qc, .slice qd qm qe] 26)).alloc (.cells #[.bool false, .slice none 0 0, .slice none 0 0] 26)) w2 := mC; have HB2 := HB _ HX2; have hz2 := More.size HX2; (try simp at hz2); have hb2 := hb2; rw [Kq.out]))
  have LZ : Hid ((limbs (f.1 * (g.2 : Int) + g.1 * (f.2 : Int)).natAbs).length ≤ 1000) := Lib.hid (Nat.le_trans (len_addZ (a := 48) (len_mulZ Lp1.out Lq3.out) (len_mulZ Lq1.out Lp3.out)) (by decide))
  go_cut [5] (fun sl wx => ∃ (nb : Nat) (za : Option Addr) (zn zc : Nat), sl = .pointer (some ⟨nb, 0, none⟩) ∧ More (((w.alloc (.cells #[.bool s, .slice pa pn pc, .slice pd pm pe] 26)).alloc (.cells #[.bool t, .slice qa qn qc, .slice qd qm qe] 26)).alloc (.cells #[.bool false, .slice none 0 0, .slice none 0 0] 26)) wx ∧ (((w.alloc (.cells #[.bool s, .slice pa pn pc, .slice pd pm pe] 26)).alloc (.cells #[.bool t, .slice qa qn qc, .slice qd qm qe] 26)).alloc (.cells #[.bool false, .slice none 0 0, .slice none 0 0] 26)).heap.size ≤ nb ∧ Box2 wx nb (.bool (decide (f.1 * (g.2 : Int) + g.1 * (f.2 : Int) < 0))) (.slice za zn zc) ∧ Hid (tInts.at wx [.slice za zn zc] (limbs (f.1 * (g.2 : Int) + g.1 * (f.2 : Int)).natAbs)))
  case first =>
    go_region_held3 (fun w' => Turns [w.heap.size + 1 + 1] (((w.alloc (.cells #[.bool s, .slice pa pn pc, .slice pd pm pe] 26)).alloc (.cells #[.bool t, .slice qa qn qc, .slice qd qm qe] 26)).alloc (.cells #[.bool false, .slice none 0 0, .slice none 0 0] 26)) w') (first | exact tC | exact mC2) (first | (go_at_call 106; (with_reducible refine (impl_bigMulZ f.1 (g.2 : Int) s false (.slice pa pn pc) (.slice qd qm qe) _ Sp.out (nat_pos _) (Ty.at_more Hp1.out mC) (Ty.at_more Hq3.out mC) (Nat.le_trans Lp1.out (by decide)) (Nat.le_trans Lq3.out (by decide))).mono ?_); rintro e w3 ⟨u3, rfl, hb3, g3⟩; obtain ⟨x3a, x3n, x3c, rfl⟩ := sh1 g3; have G3 := Lib.hid g3; clear g3; have HX3 : More (((w.alloc (.cells #[.bool s, .slice pa pn pc, .slice pd pm pe] 26)).alloc (.cells #[.bool t, .slice qa qn qc, .slice qd qm qe] 26)).alloc (.cells #[.bool false, .slice none 0 0, .slice none 0 0] 26)) w3 := mC; have HB3 := HB _ HX3; have hz3 := More.size HX3; (try simp at hz3); have hb3 := hb3; (try (have N0 : Box2 w3 (w2.heap.size) (.bool false) (.slice none 0 0) := Box2.newD (by simp) hb3)); (try (have n0c0 := N0.c0; have n0c1 := N0.c1; have n0fr := N0.fr))) | (go_at_call 106; (with_reducible refine (impl_bigMulZ g.1 (f.2 : Int) t false (.slice qa qn qc) (.slice pd pm pe) _ Sq.out (nat_pos _) (Ty.at_more Hq1.out mC) (Ty.at_more Hp3.out mC) (Nat.le_trans Lq1.out (by decide)) (Nat.le_trans Lp3.out (by decide))).mono ?_); rintro e w4 ⟨u4, rfl, hb4, g4⟩; obtain ⟨x4a, x4n, x4c, rfl⟩ := sh1 g4; have G4 := Lib.hid g4; clear g4; have HX4 : More (((w.alloc (.cells #[.bool s, .slice pa pn pc, .slice pd pm pe] 26)).alloc (.cells #[.bool t, .slice qa qn qc, .slice qd qm qe] 26)).alloc (.cells #[.bool false, .slice none 0 0, .slice none 0 0] 26)) w4 := mC; have HB4 := HB _ HX4; have hz4 := More.size HX4; (try simp at hz4); have hb4 := hb4; (try (have N0 : Box2 w4 (w2.heap.size) (.bool false) (.slice none 0 0) := Box2.keep N0 hb4)); (try (have n0c0 := N0.c0; have n0c1 := N0.c1; have n0fr := N0.fr)); (try (have N1 : Box2 w4 (w3.heap.size) (.bool false) (.slice none 0 0) := Box2.new (by simp) hb4)); (try (have n1c0 := N1.c0; have n1c1 := N1.c1; have n1fr := N1.fr))) | (go_at_call 105; (with_reducible refine (impl_bigAddZ (f.1 * (g.2 : Int)) (g.1 * (f.2 : Int)) _ _ (.slice x3a x3n x3c) (.slice x4a x4n x4c) _ rfl rfl (Ty.at_more G3.out mC) (Ty.at_more G4.out mC) (Nat.le_trans (len_mulZ Lp1.out Lq3.out) (by decide)) (Nat.le_trans (len_mulZ Lq1.out Lp3.out) (by decide))).mono ?_); rintro e w5 ⟨u5, rfl, hb5, g5⟩; obtain ⟨x5a, x5n, x5c, rfl⟩ := sh1 g5; have G5 := Lib.hid g5; clear g5; have HX5 : More (((w.alloc (.cells #[.bool s, .slice pa pn pc, .slice pd pm pe] 26)).alloc (.cells #[.bool t, .slice qa qn qc, .slice qd qm qe] 26)).alloc (.cells #[.bool false, .slice none 0 0, .slice none 0 0] 26)) w5 := mC; have HB5 := HB _ HX5; have hz5 := More.size HX5; (try simp at hz5); have hb5 := hb5; (try (have N0 : Box2 w5 (w2.heap.size) (.bool false) (.slice none 0 0) := Box2.keep N0 hb5)); (try (have n0c0 := N0.c0; have n0c1 := N0.c1; have n0fr := N0.fr)); (try (have N1 : Box2 w5 (w3.heap.size) (.bool false) (.slice none 0 0) := Box2.keep N1 hb5)); (try (have n1c0 := N1.c0; have n1c1 := N1.c1; have n1fr := N1.fr)); (try (have N2 : Box2 w5 (w4.heap.size) (.bool false) (.slice none 0 0) := Box2.new (by simp) hb5)); (try (have n2c0 := N2.c0; have n2c1 := N2.c1; have n2fr := N2.fr))))
    all_goals
      go_wp2_with fail
      go_meet
      first | exact ⟨w5.heap.size, _, _, _, rfl, mC, More.size HX5, Box2.new rfl (More.refl _), Lib.hid (Ty.at_more G5.out mC)⟩ | exact ⟨w2.heap.size, _, _, _, rfl, Box2.more HX5 (More.size HX2), More.size HX2, Box2.set N0, Lib.hid (ints_box2 G5.out N0)⟩ | exact ⟨w3.heap.size, _, _, _, rfl, Box2.more HX5 (More.size HX3), More.size HX3, Box2.set N1, Lib.hid (ints_box2 G5.out N1)⟩ | exact ⟨w4.heap.size, _, _, _, rfl, Box2.more HX5 (More.size HX4), More.size HX4, Box2.set N2, Lib.hid (ints_box2 G5.out N2)⟩
  case rest =>
  obtain ⟨nb, za, zn, zc, rfl, hm, hn, hB, hG⟩ := hcut
  have HC' := HC
  clear HC
  have HC := fun (w' : World) (h : Turns [w.heap.size + 1 + 1] wc w') => And.intro (HC' w' ((More.turns hm _).trans h)) (hB.turn h (by simp at hn; simp; omega))
  have HB' := HB
  clear HB HX
  have HB := fun (w' : World) (h : More wc w') => And.intro (HB' w' (More.trans hm h)) (And.intro ((hB.keep h).turn (More.turns (More.refl _) []) (by simp)) (hB.keep h).fr)
  go_wp2_with fail
  go_region_held3 (fun w' => Turns [w.heap.size + 1 + 1] wc w') (first | exact tC | exact mC2) (first | (go_at_call 108; (with_reducible refine (impl_natMul (.slice pd pm pe) (.slice qd qm qe) f.2 g.2 _ (Ty.at_more Hp2.out mC) (Ty.at_more Hq2.out mC) (Nat.le_trans Lp2.out (by decide)) (Nat.le_trans Lq2.out (by decide))).mono ?_); rintro e w6 ⟨u6, rfl, hb6, g6⟩; obtain ⟨x6a, x6n, x6c, rfl⟩ := sh1 g6; have G6 := Lib.hid g6; clear g6; have HX6 : More wc w6 := mC; have HB6 := HB _ HX6; have hz6 := More.size HX6; (try simp at hz6); have hb6 := hb6) | (go_at_call 107; (with_reducible refine (impl_ratMakeZ (f.1 * (g.2 : Int) + g.1 * (f.2 : Int)) _ (.slice za zn zc) (.slice x6a x6n x6c) (f.2 * g.2) _ rfl HD0.out (Ty.at_more hG.out mC) (Ty.at_more G6.out mC) LZ.out (Nat.le_trans (len_mulN Lp2.out Lq2.out) (by decide))).mono ?_); rintro e w7 ⟨x7, y7, rfl, hb7, f7⟩; obtain ⟨r7a, r7n, r7c, r7d, r7m, r7e, rfl, rfl⟩ := f7.at.sh; have F7 : Hid (RatFr wc.heap.size w7 (frMk (f.1 * (g.2 : Int) + g.1 * (f.2 : Int)) (f.2 * g.2)) _ _) := Lib.hid (RatFr.mono f7 (More.size mC)); clear f7; have HX7 : More wc w7 := mC; have HB7 := HB _ HX7; have hz7 := More.size HX7; (try simp at hz7); have hb7 := hb7))
  all_goals
    go_wp2_with fail
    refine bodyPost_ret (v := .agg #[.bool (decide ((frMk (f.1 * (g.2 : Int) + g.1 * (f.2 : Int)) (f.2 * g.2)).1 < 0)), .slice r7a r7n r7c, .slice r7d r7m r7e]) ?_ rfl ?_
    · simp [results, Tryz.results73, go_sem, *]
    · exact ⟨_, _, rfl, mC2, (F7.out.turns (bs := [w.heap.size + 1 + 1]) tC (by have h7 := hB.lt; simp at hn; simp; omega)).mono (by have h7 := hB.lt; simp at hn; omega)⟩
end Go.Proofs.YtnbefpfijaimjaaGreatDoor
/- Boxes of six cells: made, filled. It speaks of no program. -/
namespace Go.Proofs.YtnbefpfijaimjaaGreatDoor
open Go.RowKit
theorem Box6.new {X w : World} {c0 c1 c2 c3 c4 c5 : Value} {t : TypeId} {N : Nat} (hN : X.heap.size = N) (h : More (X.alloc (.cells #[c0, c1, c2, c3, c4, c5] t)) w) : Box6 w N c0 c1 c2 c3 c4 c5 :=
  ⟨box_new hN h 0, box_new hN h 1, box_new hN h 2, box_new hN h 3, box_new hN h 4, box_new hN h 5, fun j => box_free hN h j, alloc_lt hN h⟩
theorem Box6.newD {X w : World} {c0 c1 c2 c3 c4 c5 : Value} {t : TypeId} {N : Nat} (hN : X.heap.size = N) (h : More (X.alloc (.cells #[c0, c1, c2, c3, c4, c5] t)).drew w) : Box6 w N c0 c1 c2 c3 c4 c5 := Box6.new hN h.undrew
theorem Box6.set {w : World} {B : Nat} {c0 c1 c2 c3 c4 c5 u0 u1 u2 u3 u4 u5 : Value} (h : Box6 w B c0 c1 c2 c3 c4 c5) : Box6 ((((((w.setCell ⟨B, 0, none⟩ u0).setCell ⟨B, 1, none⟩ u1).setCell ⟨B, 2, none⟩ u2).setCell ⟨B, 3, none⟩ u3).setCell ⟨B, 4, none⟩ u4).setCell ⟨B, 5, none⟩ u5) B u0 u1 u2 u3 u4 u5 :=
  ⟨(World.cell?_setCell_other _ _ _ _ (by simp)).trans ((World.cell?_setCell_other _ _ _ _ (by simp)).trans ((World.cell?_setCell_other _ _ _ _ (by simp)).trans ((World.cell?_setCell_other _ _ _ _ (by simp)).trans ((World.cell?_setCell_other _ _ _ _ (by simp)).trans (World.cell?_setCell_same _ _ _ (h.e0)))))), (World.cell?_setCell_other _ _ _ _ (by simp)).trans ((World.cell?_setCell_other _ _ _ _ (by simp)).trans ((World.cell?_setCell_other _ _ _ _ (by simp)).trans ((World.cell?_setCell_other _ _ _ _ (by simp)).trans (World.cell?_setCell_same _ _ _ ((World.cell?_setCell_other _ _ _ _ (by simp)).trans (h.e1)))))), (World.cell?_setCell_other _ _ _ _ (by simp)).trans ((World.cell?_setCell_other _ _ _ _ (by simp)).trans ((World.cell?_setCell_other _ _ _ _ (by simp)).trans (World.cell?_setCell_same _ _ _ ((World.cell?_setCell_other _ _ _ _ (by simp)).trans ((World.cell?_setCell_other _ _ _ _ (by simp)).trans (h.e2)))))), (World.cell?_setCell_other _ _ _ _ (by simp)).trans ((World.cell?_setCell_other _ _ _ _ (by simp)).trans (World.cell?_setCell_same _ _ _ ((World.cell?_setCell_other _ _ _ _ (by simp)).trans ((World.cell?_setCell_other _ _ _ _ (by simp)).trans ((World.cell?_setCell_other _ _ _ _ (by simp)).trans (h.e3)))))), (World.cell?_setCell_other _ _ _ _ (by simp)).trans (World.cell?_setCell_same _ _ _ ((World.cell?_setCell_other _ _ _ _ (by simp)).trans ((World.cell?_setCell_other _ _ _ _ (by simp)).trans ((World.cell?_setCell_other _ _ _ _ (by simp)).trans ((World.cell?_setCell_other _ _ _ _ (by simp)).trans (h.e4)))))), World.cell?_setCell_same _ _ _ ((World.cell?_setCell_other _ _ _ _ (by simp)).trans ((World.cell?_setCell_other _ _ _ _ (by simp)).trans ((World.cell?_setCell_other _ _ _ _ (by simp)).trans ((World.cell?_setCell_other _ _ _ _ (by simp)).trans ((World.cell?_setCell_other _ _ _ _ (by simp)).trans (h.e5)))))), fun j => by simp only [World.frozen?_setCell]; exact h.fr j, by simpa using h.lt⟩
theorem Box6.more {w0 w : World} {B : Nat} {u0 u1 u2 u3 u4 u5 : Value} (h : More w0 w) (hB : w0.heap.size ≤ B) : More w0 ((((((w.setCell ⟨B, 0, none⟩ u0).setCell ⟨B, 1, none⟩ u1).setCell ⟨B, 2, none⟩ u2).setCell ⟨B, 3, none⟩ u3).setCell ⟨B, 4, none⟩ u4).setCell ⟨B, 5, none⟩ u5) :=
  Turns.more ((((((((h.turns []).setCell (.inr hB) _).setCell (.inr hB) _).setCell (.inr hB) _).setCell (.inr hB) _).setCell (.inr hB) _).setCell (.inr hB) _))
theorem ints_box6 {w : World} {v : Value} {l : List Int} {B : Nat} {b b' : Bool} {p1 p2 p3 p4 : Option Addr} {n1 m1 n2 m2 n3 m3 n4 m4 : Nat} {u0 u1 u2 u3 u4 u5 : Value} (k : tInts.at w [v] l) (h : Box6 w B (.bool b) (.slice p1 n1 m1) (.slice p2 n2 m2) (.bool b') (.slice p3 n3 m3) (.slice p4 n4 m4)) : tInts.at ((((((w.setCell ⟨B, 0, none⟩ u0).setCell ⟨B, 1, none⟩ u1).setCell ⟨B, 2, none⟩ u2).setCell ⟨B, 3, none⟩ u3).setCell ⟨B, 4, none⟩ u4).setCell ⟨B, 5, none⟩ u5) [v] l :=
  ints_set (ints_set (ints_set (ints_set (ints_set (ints_set (k) (h.e0) (by simp)) ((World.cell?_setCell_other _ _ _ _ (by simp)).trans (h.e1)) (by simp)) ((World.cell?_setCell_other _ _ _ _ (by simp)).trans ((World.cell?_setCell_other _ _ _ _ (by simp)).trans (h.e2))) (by simp)) ((World.cell?_setCell_other _ _ _ _ (by simp)).trans ((World.cell?_setCell_other _ _ _ _ (by simp)).trans ((World.cell?_setCell_other _ _ _ _ (by simp)).trans (h.e3)))) (by simp)) ((World.cell?_setCell_other _ _ _ _ (by simp)).trans ((World.cell?_setCell_other _ _ _ _ (by simp)).trans ((World.cell?_setCell_other _ _ _ _ (by simp)).trans ((World.cell?_setCell_other _ _ _ _ (by simp)).trans (h.e4))))) (by simp)) ((World.cell?_setCell_other _ _ _ _ (by simp)).trans ((World.cell?_setCell_other _ _ _ _ (by simp)).trans ((World.cell?_setCell_other _ _ _ _ (by simp)).trans ((World.cell?_setCell_other _ _ _ _ (by simp)).trans ((World.cell?_setCell_other _ _ _ _ (by simp)).trans (h.e5)))))) (by simp)
theorem RatAt.box6 {w : World} {f : Fr} {u v : Value} {B : Nat} {b b' : Bool} {p1 p2 p3 p4 : Option Addr} {n1 m1 n2 m2 n3 m3 n4 m4 : Nat} {u0 u1 u2 u3 u4 u5 : Value} (k : RatAt w f u v) (h : Box6 w B (.bool b) (.slice p1 n1 m1) (.slice p2 n2 m2) (.bool b') (.slice p3 n3 m3) (.slice p4 n4 m4)) : RatAt ((((((w.setCell ⟨B, 0, none⟩ u0).setCell ⟨B, 1, none⟩ u1).setCell ⟨B, 2, none⟩ u2).setCell ⟨B, 3, none⟩ u3).setCell ⟨B, 4, none⟩ u4).setCell ⟨B, 5, none⟩ u5) f u v := ⟨ints_box6 k.1 h, ints_box6 k.2 h⟩
end Go.Proofs.YtnbefpfijaimjaaGreatDoor
