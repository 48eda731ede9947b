/- Comparing fractions: the program's and the reference's. -/
import Derived.Test.YtnbefpfijaimjaaRat
import Derived.Test.YtnbefpfijaimjaaOk
namespace Go.Proofs.Ytnbefpfijaimjaa
open Go.RowKit
open Classical in
/-- The fraction that a value is; nothing where it is none. -/
noncomputable def frOf (x : QR) : Fr := if h : ∃ f, Good f ∧ x = encR f then Classical.choose h else (0, 0)
theorem frOf_good {f : Fr} (h : Good f) : frOf (encR f) = f := by
  have he : ∃ g, Good g ∧ encR f = encR g := ⟨f, h, rfl⟩
  unfold frOf
  rw [dif_pos he]
  exact (encR_inj (Classical.choose_spec he).2).symm
theorem ratOk_zero : ratOkB (encR (0, 0)) = false := by
  refine Bool.eq_false_iff.2 (fun h => ?_)
  exact (ratOk_parts h).2.2.1 (by show (limbs 0).length = 0; rw [limbs_zero]; rfl)
theorem frOf_bad {x : QR} (h : ratOkB x = false) : frOf x = (0, 0) := by
  unfold frOf
  rw [dif_neg (fun k => by rw [ratOk_iff.2 k] at h; cases h)]
theorem frOf_vd (x : QR) : Vd (frOf x) := by
  by_cases h : ∃ f, Good f ∧ x = encR f
  · unfold frOf
    rw [dif_pos h]
    exact .inr (Classical.choose_spec h).1
  · unfold frOf
    rw [dif_neg h]
    exact .inl rfl
theorem frOf_enc {f : Fr} (h : Vd f) : frOf (encR f) = f := by
  rcases h with rfl | h
  · exact frOf_bad ratOk_zero
  · exact frOf_good h
theorem enc_frOf {x : QR} (h : ratOkB x = true) : encR (frOf x) = x := by
  obtain ⟨f, h1, rfl⟩ := ratOk_fr h
  rw [frOf_good h1]
theorem ratOk_frOf (x : QR) : ratOkB x = decide ((frOf x).2 ≠ 0) := by
  rcases Bool.eq_false_or_eq_true (ratOkB x) with h | h
  · obtain ⟨f, h1, rfl⟩ := ratOk_fr h
    rw [h, frOf_good h1, decide_eq_true h1.1]
  · rw [h, frOf_bad h]
    rfl
theorem frOf_at {w : World} {b : Bool} {u v : Value} {x : QR} (h : tRat.at w [.bool b, u, v] x) (hx : ratOkB x = true) : decide ((frOf x).1 < 0) = b ∧ RatAt w (frOf x) u v := RatAt.of (by rw [enc_frOf hx]; exact h)
set_option maxRecDepth 4000 in
set_option maxHeartbeats 6400000 in
theorem impl_ratCmp (f : Fr) (up vp : Value) (g : Fr) (uq vq : Value) (w : World) (hp : RatAt w f up vp) (kp : Vd f) (hq : RatAt w g uq vq) (kq : Vd g) :
    Calls Try.prog 37 #[.agg #[.bool (decide (f.1 < 0)), up, vp], .agg #[.bool (decide (g.1 < 0)), uq, vq]] w fun e w' => e = .returned (.int .i64 (frCmp f g)) ∧ More w w' := by
  obtain ⟨pa, pn, pc, pd, pm, pe, rfl, rfl, p1, p2⟩ := hp.shL
  have Hp1 := Lib.hid hp.1; have Hp2 := Lib.hid hp.2; have Hp := Lib.hid hp; have Lp1 := Lib.hid kp.sm1; have Lp2 := Lib.hid kp.sm2; have Np1 := Lib.hid p1; have Np2 := Lib.hid p2; clear hp p1 p2
  obtain ⟨s, zp⟩ : ∃ b, decide (f.1 < 0) = b := ⟨_, rfl⟩
  rw [zp]
  have Sp := Lib.hid zp; clear zp
  obtain ⟨qa, qn, qc, qd, qm, qe, rfl, rfl, q1, q2⟩ := hq.shL
  have Hq1 := Lib.hid hq.1; have Hq2 := Lib.hid hq.2; have Hq := Lib.hid hq; have Lq1 := Lib.hid kq.sm1; have Lq2 := Lib.hid kq.sm2; have Nq1 := Lib.hid q1; have Nq2 := Lib.hid q2; clear hq q1 q2
  obtain ⟨t, zq⟩ : ∃ b, decide (g.1 < 0) = b := ⟨_, rfl⟩
  rw [zq]
  have Sq := Lib.hid zq; clear zq
  by_cases hf0 : f.2 = 0
  · have Kp : Hid (decide (f.2 ≠ 0) = false) := Lib.hid (by simp [hf0])
    rw [frCmp, if_pos (.inl hf0)]
    clear hf0
    have HX : More ((w.alloc (.cells #[.bool s, .slice pa pn pc, .slice pd pm pe] 38)).alloc (.cells #[.bool t, .slice qa qn qc, .slice qd qm qe] 38)) ((w.alloc (.cells #[.bool s, .slice pa pn pc, .slice pd pm pe] 38)).alloc (.cells #[.bool t, .slice qa qn qc, .slice qd qm qe] 38)) := More.refl _
    have HB : ∀ w', More ((w.alloc (.cells #[.bool s, .slice pa pn pc, .slice pd pm pe] 38)).alloc (.cells #[.bool t, .slice qa qn qc, .slice qd qm qe] 38)) w' → w'.cell? ⟨w.heap.size, 0, none⟩ = some (.bool s) ∧ w'.cell? ⟨w.heap.size, 1, none⟩ = some (.slice pa pn pc) ∧ w'.cell? ⟨w.heap.size, 2, none⟩ = some (.slice pd pm pe) ∧ (∀ j, w'.frozen? ⟨w.heap.size, j, none⟩ = false) ∧ w'.cell? ⟨w.heap.size + 1, 0, none⟩ = some (.bool t) ∧ w'.cell? ⟨w.heap.size + 1, 1, none⟩ = some (.slice qa qn qc) ∧ w'.cell? ⟨w.heap.size + 1, 2, none⟩ = some (.slice qd qm qe) ∧ (∀ j, w'.frozen? ⟨w.heap.size + 1, j, none⟩ = false) := fun w' h => ⟨box_new (by simp) (More.un h) 0, box_new (by simp) (More.un h) 1, box_new (by simp) (More.un h) 2, fun j => box_free (by simp) (More.un h) j, box_new (by simp) h 0, box_new (by simp) h 1, box_new (by simp) h 2, fun j => box_free (by simp) h j⟩
    have HC := fun (w' : World) (h : Turns [] ((w.alloc (.cells #[.bool s, .slice pa pn pc, .slice pd pm pe] 38)).alloc (.cells #[.bool t, .slice qa qn qc, .slice qd qm qe] 38)) w') => HB w' (Turns.more h)
    go_enter Try.func37, Try.ntmps37
    go_wp2_with (first | (go_at_call 55; (with_reducible refine (impl_isGood s f (.slice pa pn pc) (.slice pd pm pe) _ (Hp.out.more mC)).mono ?_); rintro e w1 ⟨rfl, hb1⟩; have HX1 : More ((w.alloc (.cells #[.bool s, .slice pa pn pc, .slice pd pm pe] 38)).alloc (.cells #[.bool t, .slice qa qn qc, .slice qd qm qe] 38)) w1 := mC; have HB1 := HB _ HX1; have hz1 := More.size HX1; (try simp at hz1); have hb1 := hb1; rw [Kp.out]))
    go_ret
    exact ⟨rfl, mC⟩
  have Kp : Hid (decide (f.2 ≠ 0) = true) := Lib.hid (by simp [hf0])
  by_cases hg0 : g.2 = 0
  · have Kq : Hid (decide (g.2 ≠ 0) = false) := Lib.hid (by simp [hg0])
    rw [frCmp, if_pos (.inr hg0)]
    clear hf0 hg0
    have HX : More ((w.alloc (.cells #[.bool s, .slice pa pn pc, .slice pd pm pe] 38)).alloc (.cells #[.bool t, .slice qa qn qc, .slice qd qm qe] 38)) ((w.alloc (.cells #[.bool s, .slice pa pn pc, .slice pd pm pe] 38)).alloc (.cells #[.bool t, .slice qa qn qc, .slice qd qm qe] 38)) := More.refl _
    have HB : ∀ w', More ((w.alloc (.cells #[.bool s, .slice pa pn pc, .slice pd pm pe] 38)).alloc (.cells #[.bool t, .slice qa qn qc, .slice qd qm qe] 38)) w' → w'.cell? ⟨w.heap.size, 0, none⟩ = some (.bool s) ∧ w'.cell? ⟨w.heap.size, 1, none⟩ = some (.slice pa pn pc) ∧ w'.cell? ⟨w.heap.size, 2, none⟩ = some (.slice pd pm pe) ∧ (∀ j, w'.frozen? ⟨w.heap.size, j, none⟩ = false) ∧ w'.cell? ⟨w.heap.size + 1, 0, none⟩ = some (.bool t) ∧ w'.cell? ⟨w.heap.size + 1, 1, none⟩ = some (.slice qa qn qc) ∧ w'.cell? ⟨w.heap.size + 1, 2, none⟩ = some (.slice qd qm qe) ∧ (∀ j, w'.frozen? ⟨w.heap.size + 1, j, none⟩ = false) := fun w' h => ⟨box_new (by simp) (More.un h) 0, box_new (by simp) (More.un h) 1, box_new (by simp) (More.un h) 2, fun j => box_free (by simp) (More.un h) j, box_new (by simp) h 0, box_new (by simp) h 1, box_new (by simp) h 2, fun j => box_free (by simp) h j⟩
    have HC := fun (w' : World) (h : Turns [] ((w.alloc (.cells #[.bool s, .slice pa pn pc, .slice pd pm pe] 38)).alloc (.cells #[.bool t, .slice qa qn qc, .slice qd qm qe] 38)) w') => HB w' (Turns.more h)
    go_enter Try.func37, Try.ntmps37
    go_wp2_with (first | (go_at_call 55; (with_reducible refine (impl_isGood s f (.slice pa pn pc) (.slice pd pm pe) _ (Hp.out.more mC)).mono ?_); rintro e w1 ⟨rfl, hb1⟩; have HX1 : More ((w.alloc (.cells #[.bool s, .slice pa pn pc, .slice pd pm pe] 38)).alloc (.cells #[.bool t, .slice qa qn qc, .slice qd qm qe] 38)) w1 := mC; have HB1 := HB _ HX1; have hz1 := More.size HX1; (try simp at hz1); have hb1 := hb1; rw [Kp.out]) | (go_at_call 55; (with_reducible refine (impl_isGood t g (.slice qa qn qc) (.slice qd qm qe) _ (Hq.out.more mC)).mono ?_); rintro e w2 ⟨rfl, hb2⟩; have HX2 : More ((w.alloc (.cells #[.bool s, .slice pa pn pc, .slice pd pm pe] 38)).alloc (.cells #[.bool t, .slice qa qn qc, .slice qd qm qe] 38)) w2 := mC; have HB2 := HB _ HX2; have hz2 := More.size HX2; (try simp at hz2); have hb2 := hb2; rw [Kq.out]))
    go_ret
    exact ⟨rfl, mC⟩
  have Kq : Hid (decide (g.2 ≠ 0) = true) := Lib.hid (by simp [hg0])
  rw [frCmp, if_neg (fun h => h.elim hf0 hg0)]
  have Hp3 := Lib.hid (at_natZ Hp2.out); have Hq3 := Lib.hid (at_natZ Hq2.out); have Lp3 := Lib.hid (len_natZ Lp2.out); have Lq3 := Lib.hid (len_natZ Lq2.out)
  clear hf0 hg0
  have HX : More ((w.alloc (.cells #[.bool s, .slice pa pn pc, .slice pd pm pe] 38)).alloc (.cells #[.bool t, .slice qa qn qc, .slice qd qm qe] 38)) ((w.alloc (.cells #[.bool s, .slice pa pn pc, .slice pd pm pe] 38)).alloc (.cells #[.bool t, .slice qa qn qc, .slice qd qm qe] 38)) := More.refl _
  have HB : ∀ w', More ((w.alloc (.cells #[.bool s, .slice pa pn pc, .slice pd pm pe] 38)).alloc (.cells #[.bool t, .slice qa qn qc, .slice qd qm qe] 38)) w' → w'.cell? ⟨w.heap.size, 0, none⟩ = some (.bool s) ∧ w'.cell? ⟨w.heap.size, 1, none⟩ = some (.slice pa pn pc) ∧ w'.cell? ⟨w.heap.size, 2, none⟩ = some (.slice pd pm pe) ∧ (∀ j, w'.frozen? ⟨w.heap.size, j, none⟩ = false) ∧ w'.cell? ⟨w.heap.size + 1, 0, none⟩ = some (.bool t) ∧ w'.cell? ⟨w.heap.size + 1, 1, none⟩ = some (.slice qa qn qc) ∧ w'.cell? ⟨w.heap.size + 1, 2, none⟩ = some (.slice qd qm qe) ∧ (∀ j, w'.frozen? ⟨w.heap.size + 1, j, none⟩ = false) := fun w' h => ⟨box_new (by simp) (More.un h) 0, box_new (by simp) (More.un h) 1, box_new (by simp) (More.un h) 2, fun j => box_free (by simp) (More.un h) j, box_new (by simp) h 0, box_new (by simp) h 1, box_new (by simp) h 2, fun j => box_free (by simp) h j⟩
  have HC := fun (w' : World) (h : Turns [] ((w.alloc (.cells #[.bool s, .slice pa pn pc, .slice pd pm pe] 38)).alloc (.cells #[.bool t, .slice qa qn qc, .slice qd qm qe] 38)) w') => HB w' (Turns.more h)
  go_enter Try.func37, Try.ntmps37
  go_wp2_with (first | (go_at_call 55; (with_reducible refine (impl_isGood s f (.slice pa pn pc) (.slice pd pm pe) _ (Hp.out.more mC)).mono ?_); rintro e w1 ⟨rfl, hb1⟩; have HX1 : More ((w.alloc (.cells #[.bool s, .slice pa pn pc, .slice pd pm pe] 38)).alloc (.cells #[.bool t, .slice qa qn qc, .slice qd qm qe] 38)) w1 := mC; have HB1 := HB _ HX1; have hz1 := More.size HX1; (try simp at hz1); have hb1 := hb1; rw [Kp.out]) | (go_at_call 55; (with_reducible refine (impl_isGood t g (.slice qa qn qc) (.slice qd qm qe) _ (Hq.out.more mC)).mono ?_); rintro e w2 ⟨rfl, hb2⟩; have HX2 : More ((w.alloc (.cells #[.bool s, .slice pa pn pc, .slice pd pm pe] 38)).alloc (.cells #[.bool t, .slice qa qn qc, .slice qd qm qe] 38)) w2 := mC; have HB2 := HB _ HX2; have hz2 := More.size HX2; (try simp at hz2); have hb2 := hb2; rw [Kq.out]))
  go_region_held3 (fun w' => Turns [] ((w.alloc (.cells #[.bool s, .slice pa pn pc, .slice pd pm pe] 38)).alloc (.cells #[.bool t, .slice qa qn qc, .slice qd qm qe] 38)) w') (first | exact tC | exact mC2) (first | (go_at_call 57; (with_reducible refine (impl_bigMulZ f.1 (g.2 : Int) s false (.slice pa pn pc) (.slice qd qm qe) _ Sp.out (nat_pos _) (Ty.at_more Hp1.out mC) (Ty.at_more Hq3.out mC) (Nat.le_trans Lp1.out (by decide)) (Nat.le_trans Lq3.out (by decide))).mono ?_); rintro e w3 ⟨u3, rfl, hb3, g3⟩; obtain ⟨x3a, x3n, x3c, rfl⟩ := sh1 g3; have G3 := Lib.hid g3; clear g3; have HX3 : More ((w.alloc (.cells #[.bool s, .slice pa pn pc, .slice pd pm pe] 38)).alloc (.cells #[.bool t, .slice qa qn qc, .slice qd qm qe] 38)) w3 := mC; have HB3 := HB _ HX3; have hz3 := More.size HX3; (try simp at hz3); have hb3 := hb3) | (go_at_call 57; (with_reducible refine (impl_bigMulZ g.1 (f.2 : Int) t false (.slice qa qn qc) (.slice pd pm pe) _ Sq.out (nat_pos _) (Ty.at_more Hq1.out mC) (Ty.at_more Hp3.out mC) (Nat.le_trans Lq1.out (by decide)) (Nat.le_trans Lp3.out (by decide))).mono ?_); rintro e w4 ⟨u4, rfl, hb4, g4⟩; obtain ⟨x4a, x4n, x4c, rfl⟩ := sh1 g4; have G4 := Lib.hid g4; clear g4; have HX4 : More ((w.alloc (.cells #[.bool s, .slice pa pn pc, .slice pd pm pe] 38)).alloc (.cells #[.bool t, .slice qa qn qc, .slice qd qm qe] 38)) w4 := mC; have HB4 := HB _ HX4; have hz4 := More.size HX4; (try simp at hz4); have hb4 := hb4) | (go_at_call 56; (with_reducible refine (impl_bigCmpZ (f.1 * (g.2 : Int)) (g.1 * (f.2 : Int)) _ _ (.slice x3a x3n x3c) (.slice x4a x4n x4c) _ rfl rfl (Ty.at_more G3.out mC) (Ty.at_more G4.out mC) (Nat.le_trans (len_mulZ Lp1.out Lq3.out) (by decide)) (Nat.le_trans (len_mulZ Lq1.out Lp3.out) (by decide))).mono ?_); rintro e w5 ⟨rfl, hb5⟩; have HX5 : More ((w.alloc (.cells #[.bool s, .slice pa pn pc, .slice pd pm pe] 38)).alloc (.cells #[.bool t, .slice qa qn qc, .slice qd qm qe] 38)) w5 := mC; have HB5 := HB _ HX5; have hz5 := More.size HX5; (try simp at hz5); have hb5 := hb5))
  all_goals
    go_wp2_with fail
    go_ret
    exact ⟨rfl, mC⟩
theorem spec_l03MakeZ (z : Int) (s : Bool) (v : Value) (w : World) (hs : sgn s z.natAbs = z) (hv : tInts.at w [v] (limbs z.natAbs)) (hl : (limbs z.natAbs).length ≤ 60) :
    Calls Try.prog 67 #[.bool s, v] w fun e w' => ∃ u, e = .returned (.agg #[.bool (decide (z < 0)), u]) ∧ More w w' ∧ tInts.fresh w.heap.size w' [u] (limbs z.natAbs) := by
  have h := spec_l03Make s v z.natAbs w hv hl
  rw [hs] at h
  exact h
theorem spec_l03CmpZ (x y : Int) (s s' : Bool) (v v' : Value) (w : World) (hs : decide (x < 0) = s) (hs' : decide (y < 0) = s') (hv : tInts.at w [v] (limbs x.natAbs)) (hv' : tInts.at w [v'] (limbs y.natAbs)) (hl : (limbs x.natAbs).length ≤ 1000) (hm : (limbs y.natAbs).length ≤ 1000) :
    Calls Try.prog 66 #[.agg #[.bool s, v], .agg #[.bool s', v']] w fun e w' => e = .returned (.int .i64 (cmpI x y)) ∧ More w w' := by
  have h := spec_l03Cmp s s' v v' x.natAbs y.natAbs w hv hv' (sgn_nz hs) (sgn_nz hs') hl hm
  rw [sgn_of hs, sgn_of hs'] at h
  exact h
theorem sgn_mulN {z : Int} {s : Bool} (h : decide (z < 0) = s) (d : Nat) : sgn s (z * (d : Int)).natAbs = z * (d : Int) := by
  rw [Int.natAbs_mul, Int.natAbs_natCast, ← h]
  conv => rhs; rw [← sgn_self z]
  unfold sgn
  split <;> simp [Int.neg_mul]
theorem at_mulZ {w : World} {v : Value} {z : Int} {d : Nat} (h : tInts.at w [v] (limbs (z.natAbs * d))) : tInts.at w [v] (limbs (z * (d : Int)).natAbs) := by rw [Int.natAbs_mul, Int.natAbs_natCast]; exact h
set_option maxRecDepth 4000 in
set_option maxHeartbeats 6400000 in
theorem spec_l04Cmp (f : Fr) (up vp : Value) (g : Fr) (uq vq : Value) (w : World) (hp : RatAt w f up vp) (kp : Vd f) (hq : RatAt w g uq vq) (kq : Vd g) :
    Calls Try.prog 46 #[.agg #[.bool (decide (f.1 < 0)), up, vp], .agg #[.bool (decide (g.1 < 0)), uq, vq]] w fun e w' => e = .returned (.int .i64 (cmpI (f.1 * (g.2 : Int)) (g.1 * (f.2 : Int)))) ∧ More w w' := by
  obtain ⟨pa, pn, pc, pd, pm, pe, rfl, rfl, p1, p2⟩ := hp.shL
  have Hp1 := Lib.hid hp.1; have Hp2 := Lib.hid hp.2; have Hp := Lib.hid hp; have Lp1 := Lib.hid kp.sm1; have Lp2 := Lib.hid kp.sm2; have Np1 := Lib.hid p1; have Np2 := Lib.hid p2; clear hp p1 p2
  obtain ⟨s, zp⟩ : ∃ b, decide (f.1 < 0) = b := ⟨_, rfl⟩
  rw [zp]
  have Sp := Lib.hid zp; clear zp
  obtain ⟨qa, qn, qc, qd, qm, qe, rfl, rfl, q1, q2⟩ := hq.shL
  have Hq1 := Lib.hid hq.1; have Hq2 := Lib.hid hq.2; have Hq := Lib.hid hq; have Lq1 := Lib.hid kq.sm1; have Lq2 := Lib.hid kq.sm2; have Nq1 := Lib.hid q1; have Nq2 := Lib.hid q2; clear hq q1 q2
  obtain ⟨t, zq⟩ : ∃ b, decide (g.1 < 0) = b := ⟨_, rfl⟩
  rw [zq]
  have Sq := Lib.hid zq; clear zq
  have HX : More ((w.alloc (.cells #[.bool s, .slice pa pn pc, .slice pd pm pe] 38)).alloc (.cells #[.bool t, .slice qa qn qc, .slice qd qm qe] 38)) ((w.alloc (.cells #[.bool s, .slice pa pn pc, .slice pd pm pe] 38)).alloc (.cells #[.bool t, .slice qa qn qc, .slice qd qm qe] 38)) := More.refl _
  have HB : ∀ w', More ((w.alloc (.cells #[.bool s, .slice pa pn pc, .slice pd pm pe] 38)).alloc (.cells #[.bool t, .slice qa qn qc, .slice qd qm qe] 38)) w' → w'.cell? ⟨w.heap.size, 0, none⟩ = some (.bool s) ∧ w'.cell? ⟨w.heap.size, 1, none⟩ = some (.slice pa pn pc) ∧ w'.cell? ⟨w.heap.size, 2, none⟩ = some (.slice pd pm pe) ∧ (∀ j, w'.frozen? ⟨w.heap.size, j, none⟩ = false) ∧ w'.cell? ⟨w.heap.size + 1, 0, none⟩ = some (.bool t) ∧ w'.cell? ⟨w.heap.size + 1, 1, none⟩ = some (.slice qa qn qc) ∧ w'.cell? ⟨w.heap.size + 1, 2, none⟩ = some (.slice qd qm qe) ∧ (∀ j, w'.frozen? ⟨w.heap.size + 1, j, none⟩ = false) := fun w' h => ⟨box_new (by simp) (More.un h) 0, box_new (by simp) (More.un h) 1, box_new (by simp) (More.un h) 2, fun j => box_free (by simp) (More.un h) j, box_new (by simp) h 0, box_new (by simp) h 1, box_new (by simp) h 2, fun j => box_free (by simp) h j⟩
  have HC := fun (w' : World) (h : Turns [] ((w.alloc (.cells #[.bool s, .slice pa pn pc, .slice pd pm pe] 38)).alloc (.cells #[.bool t, .slice qa qn qc, .slice qd qm qe] 38)) w') => HB w' (Turns.more h)
  go_enter Try.func46, Try.ntmps46
  go_wp2_with fail
  go_region_held3 (fun w' => Turns [] ((w.alloc (.cells #[.bool s, .slice pa pn pc, .slice pd pm pe] 38)).alloc (.cells #[.bool t, .slice qa qn qc, .slice qd qm qe] 38)) w') (first | exact tC | exact mC2) (first | (go_at_call 65; (with_reducible refine (spec_l02Mul (.slice pa pn pc) (.slice qd qm qe) f.1.natAbs g.2 _ (Ty.at_more Hp1.out mC) (Ty.at_more Hq2.out mC) (Nat.le_trans Lp1.out (by decide)) (Nat.le_trans Lq2.out (by decide))).mono ?_); rintro e w3 ⟨u3, rfl, hb3, g3⟩; obtain ⟨x3a, x3n, x3c, rfl⟩ := sh1 g3; have G3 := Lib.hid g3; clear g3; have HX3 : More ((w.alloc (.cells #[.bool s, .slice pa pn pc, .slice pd pm pe] 38)).alloc (.cells #[.bool t, .slice qa qn qc, .slice qd qm qe] 38)) w3 := mC; have HB3 := HB _ HX3; have hz3 := More.size HX3; (try simp at hz3); have hb3 := hb3; have G3z := Lib.hid (at_mulZ (z := f.1) (d := g.2) G3.out)) | (go_at_call 67; (with_reducible refine (spec_l03MakeZ (f.1 * (g.2 : Int)) s (.slice x3a x3n x3c) _ (sgn_mulN Sp.out _) (Ty.at_more G3z.out mC) (Nat.le_trans (len_mulZ Lp1.out (len_natZ Lq2.out)) (by decide))).mono ?_); rintro e w4 ⟨u4, rfl, hb4, f4⟩; obtain ⟨x4a, x4n, x4c, rfl⟩ := sh1 (Ty.fresh_at f4); have F4 := Lib.hid f4; have G4 := Lib.hid (Ty.fresh_at f4); clear f4; have HX4 : More ((w.alloc (.cells #[.bool s, .slice pa pn pc, .slice pd pm pe] 38)).alloc (.cells #[.bool t, .slice qa qn qc, .slice qd qm qe] 38)) w4 := mC; have HB4 := HB _ HX4; have hz4 := More.size HX4; (try simp at hz4); have hb4 := hb4) | (go_at_call 65; (with_reducible refine (spec_l02Mul (.slice qa qn qc) (.slice pd pm pe) g.1.natAbs f.2 _ (Ty.at_more Hq1.out mC) (Ty.at_more Hp2.out mC) (Nat.le_trans Lq1.out (by decide)) (Nat.le_trans Lp2.out (by decide))).mono ?_); rintro e w5 ⟨u5, rfl, hb5, g5⟩; obtain ⟨x5a, x5n, x5c, rfl⟩ := sh1 g5; have G5 := Lib.hid g5; clear g5; have HX5 : More ((w.alloc (.cells #[.bool s, .slice pa pn pc, .slice pd pm pe] 38)).alloc (.cells #[.bool t, .slice qa qn qc, .slice qd qm qe] 38)) w5 := mC; have HB5 := HB _ HX5; have hz5 := More.size HX5; (try simp at hz5); have hb5 := hb5; have G5z := Lib.hid (at_mulZ (z := g.1) (d := f.2) G5.out)) | (go_at_call 67; (with_reducible refine (spec_l03MakeZ (g.1 * (f.2 : Int)) t (.slice x5a x5n x5c) _ (sgn_mulN Sq.out _) (Ty.at_more G5z.out mC) (Nat.le_trans (len_mulZ Lq1.out (len_natZ Lp2.out)) (by decide))).mono ?_); rintro e w6 ⟨u6, rfl, hb6, f6⟩; obtain ⟨x6a, x6n, x6c, rfl⟩ := sh1 (Ty.fresh_at f6); have F6 := Lib.hid f6; have G6 := Lib.hid (Ty.fresh_at f6); clear f6; have HX6 : More ((w.alloc (.cells #[.bool s, .slice pa pn pc, .slice pd pm pe] 38)).alloc (.cells #[.bool t, .slice qa qn qc, .slice qd qm qe] 38)) w6 := mC; have HB6 := HB _ HX6; have hz6 := More.size HX6; (try simp at hz6); have hb6 := hb6) | (go_at_call 66; (with_reducible refine (spec_l03CmpZ (f.1 * (g.2 : Int)) (g.1 * (f.2 : Int)) _ _ (.slice x4a x4n x4c) (.slice x6a x6n x6c) _ rfl rfl (Ty.at_more G4.out mC) (Ty.at_more G6.out mC) (Nat.le_trans (len_mulZ Lp1.out (len_natZ Lq2.out)) (by decide)) (Nat.le_trans (len_mulZ Lq1.out (len_natZ Lp2.out)) (by decide))).mono ?_); rintro e w7 ⟨rfl, hb7⟩; have HX7 : More ((w.alloc (.cells #[.bool s, .slice pa pn pc, .slice pd pm pe] 38)).alloc (.cells #[.bool t, .slice qa qn qc, .slice qd qm qe] 38)) w7 := mC; have HB7 := HB _ HX7; have hz7 := More.size HX7; (try simp at hz7); have hb7 := hb7))
  all_goals
    go_wp2_with fail
    go_ret
    exact ⟨rfl, mC⟩
theorem spec_l04CmpB (f g : Fr) (b c : Bool) (up vp uq vq : Value) (w : World) (hb : decide (f.1 < 0) = b) (hc : decide (g.1 < 0) = c) (hp : RatAt w f up vp) (kp : Vd f) (hq : RatAt w g uq vq) (kq : Vd g) :
    Calls Try.prog 46 #[.agg #[.bool b, up, vp], .agg #[.bool c, uq, vq]] w fun e w' => e = .returned (.int .i64 (cmpI (f.1 * (g.2 : Int)) (g.1 * (f.2 : Int)))) ∧ More w w' := by
  subst hb
  subst hc
  exact spec_l04Cmp f up vp g uq vq w hp kp hq kq
set_option maxRecDepth 4000 in
set_option maxHeartbeats 6400000 in
theorem spec_RatCmp (x : QR) (b : Bool) (up vp : Value) (y : QR) (c : Bool) (uq vq : Value) (w : World) (hp : tRat.at w [.bool b, up, vp] x) (lp : wRat x ≤ 1048576) (hq : tRat.at w [.bool c, uq, vq] y) (lq : wRat y ≤ 1048576) :
    Calls Try.prog 27 #[.agg #[.bool b, up, vp], .agg #[.bool c, uq, vq]] w fun e w' => e = .returned (.int .i64 (frCmp (frOf x) (frOf y))) ∧ More w w' := by
  obtain ⟨-, hup, hvp⟩ := rat_split hp
  obtain ⟨pa, pn, pc, rfl⟩ := sh1 hup
  obtain ⟨pd, pm, pe, rfl⟩ := sh1 hvp
  have Hp := Lib.hid hp; have Wp := Lib.hid lp; clear hp lp hup hvp
  obtain ⟨-, huq, hvq⟩ := rat_split hq
  obtain ⟨qa, qn, qc, rfl⟩ := sh1 huq
  obtain ⟨qd, qm, qe, rfl⟩ := sh1 hvq
  have Hq := Lib.hid hq; have Wq := Lib.hid lq; clear hq lq huq hvq
  rcases Bool.eq_false_or_eq_true (ratOkB x) with kp | kp
  rotate_left
  · have Kp := Lib.hid kp
    have Ep := frOf_bad kp; clear kp
    rw [frCmp, if_pos (.inl (by rw [Ep]))]
    clear Ep
    have HX : More ((w.alloc (.cells #[.bool b, .slice pa pn pc, .slice pd pm pe] 38)).alloc (.cells #[.bool c, .slice qa qn qc, .slice qd qm qe] 38)) ((w.alloc (.cells #[.bool b, .slice pa pn pc, .slice pd pm pe] 38)).alloc (.cells #[.bool c, .slice qa qn qc, .slice qd qm qe] 38)) := More.refl _
    have HB : ∀ w', More ((w.alloc (.cells #[.bool b, .slice pa pn pc, .slice pd pm pe] 38)).alloc (.cells #[.bool c, .slice qa qn qc, .slice qd qm qe] 38)) w' → w'.cell? ⟨w.heap.size, 0, none⟩ = some (.bool b) ∧ w'.cell? ⟨w.heap.size, 1, none⟩ = some (.slice pa pn pc) ∧ w'.cell? ⟨w.heap.size, 2, none⟩ = some (.slice pd pm pe) ∧ (∀ j, w'.frozen? ⟨w.heap.size, j, none⟩ = false) ∧ w'.cell? ⟨w.heap.size + 1, 0, none⟩ = some (.bool c) ∧ w'.cell? ⟨w.heap.size + 1, 1, none⟩ = some (.slice qa qn qc) ∧ w'.cell? ⟨w.heap.size + 1, 2, none⟩ = some (.slice qd qm qe) ∧ (∀ j, w'.frozen? ⟨w.heap.size + 1, j, none⟩ = false) := fun w' h => ⟨box_new (by simp) (More.un h) 0, box_new (by simp) (More.un h) 1, box_new (by simp) (More.un h) 2, fun j => box_free (by simp) (More.un h) j, box_new (by simp) h 0, box_new (by simp) h 1, box_new (by simp) h 2, fun j => box_free (by simp) h j⟩
    have HC := fun (w' : World) (h : Turns [] ((w.alloc (.cells #[.bool b, .slice pa pn pc, .slice pd pm pe] 38)).alloc (.cells #[.bool c, .slice qa qn qc, .slice qd qm qe] 38)) w') => HB w' (Turns.more h)
    go_enter Try.func27, Try.ntmps27
    go_wp2_with (first | (go_at_call 12; (with_reducible refine (spec_RatOk b (.slice pa pn pc) (.slice pd pm pe) x _ (Ty.at_more Hp.out mC) Wp.out).mono ?_); rintro e w1 ⟨rfl, hb1⟩; have HX1 : More ((w.alloc (.cells #[.bool b, .slice pa pn pc, .slice pd pm pe] 38)).alloc (.cells #[.bool c, .slice qa qn qc, .slice qd qm qe] 38)) w1 := mC; have HB1 := HB _ HX1; have hz1 := More.size HX1; (try simp at hz1); have hb1 := hb1; rw [Kp.out]))
    go_ret
    exact ⟨rfl, mC⟩
  have Kp := Lib.hid kp; clear kp
  rcases Bool.eq_false_or_eq_true (ratOkB y) with kq | kq
  rotate_left
  · have Kq := Lib.hid kq
    have Eq := frOf_bad kq; clear kq
    rw [frCmp, if_pos (.inr (by rw [Eq]))]
    clear Eq
    have HX : More ((w.alloc (.cells #[.bool b, .slice pa pn pc, .slice pd pm pe] 38)).alloc (.cells #[.bool c, .slice qa qn qc, .slice qd qm qe] 38)) ((w.alloc (.cells #[.bool b, .slice pa pn pc, .slice pd pm pe] 38)).alloc (.cells #[.bool c, .slice qa qn qc, .slice qd qm qe] 38)) := More.refl _
    have HB : ∀ w', More ((w.alloc (.cells #[.bool b, .slice pa pn pc, .slice pd pm pe] 38)).alloc (.cells #[.bool c, .slice qa qn qc, .slice qd qm qe] 38)) w' → w'.cell? ⟨w.heap.size, 0, none⟩ = some (.bool b) ∧ w'.cell? ⟨w.heap.size, 1, none⟩ = some (.slice pa pn pc) ∧ w'.cell? ⟨w.heap.size, 2, none⟩ = some (.slice pd pm pe) ∧ (∀ j, w'.frozen? ⟨w.heap.size, j, none⟩ = false) ∧ w'.cell? ⟨w.heap.size + 1, 0, none⟩ = some (.bool c) ∧ w'.cell? ⟨w.heap.size + 1, 1, none⟩ = some (.slice qa qn qc) ∧ w'.cell? ⟨w.heap.size + 1, 2, none⟩ = some (.slice qd qm qe) ∧ (∀ j, w'.frozen? ⟨w.heap.size + 1, j, none⟩ = false) := fun w' h => ⟨box_new (by simp) (More.un h) 0, box_new (by simp) (More.un h) 1, box_new (by simp) (More.un h) 2, fun j => box_free (by simp) (More.un h) j, box_new (by simp) h 0, box_new (by simp) h 1, box_new (by simp) h 2, fun j => box_free (by simp) h j⟩
    have HC := fun (w' : World) (h : Turns [] ((w.alloc (.cells #[.bool b, .slice pa pn pc, .slice pd pm pe] 38)).alloc (.cells #[.bool c, .slice qa qn qc, .slice qd qm qe] 38)) w') => HB w' (Turns.more h)
    go_enter Try.func27, Try.ntmps27
    go_wp2_with (first | (go_at_call 12; (with_reducible refine (spec_RatOk b (.slice pa pn pc) (.slice pd pm pe) x _ (Ty.at_more Hp.out mC) Wp.out).mono ?_); rintro e w1 ⟨rfl, hb1⟩; have HX1 : More ((w.alloc (.cells #[.bool b, .slice pa pn pc, .slice pd pm pe] 38)).alloc (.cells #[.bool c, .slice qa qn qc, .slice qd qm qe] 38)) w1 := mC; have HB1 := HB _ HX1; have hz1 := More.size HX1; (try simp at hz1); have hb1 := hb1; rw [Kp.out]) | (go_at_call 12; (with_reducible refine (spec_RatOk c (.slice qa qn qc) (.slice qd qm qe) y _ (Ty.at_more Hq.out mC) Wq.out).mono ?_); rintro e w2 ⟨rfl, hb2⟩; have HX2 : More ((w.alloc (.cells #[.bool b, .slice pa pn pc, .slice pd pm pe] 38)).alloc (.cells #[.bool c, .slice qa qn qc, .slice qd qm qe] 38)) w2 := mC; have HB2 := HB _ HX2; have hz2 := More.size HX2; (try simp at hz2); have hb2 := hb2; rw [Kq.out]))
    go_ret
    exact ⟨rfl, mC⟩
  have Kq := Lib.hid kq; clear kq
  obtain ⟨sp, ap⟩ := frOf_at Hp.out Kp.out; have Ap := Lib.hid ap; have Sp := Lib.hid sp; have Vp := Lib.hid (frOf_vd x); clear sp ap
  obtain ⟨sq, aq⟩ := frOf_at Hq.out Kq.out; have Aq := Lib.hid aq; have Sq := Lib.hid sq; have Vq := Lib.hid (frOf_vd y); clear sq aq
  have NZ : ¬ ((frOf x).2 = 0 ∨ (frOf y).2 = 0) := fun h => h.elim (fun h => by have := ratOk_frOf x; rw [Kp.out, h] at this; cases this) (fun h => by have := ratOk_frOf y; rw [Kq.out, h] at this; cases this)
  rw [frCmp, if_neg NZ]
  clear NZ
  have HX : More ((w.alloc (.cells #[.bool b, .slice pa pn pc, .slice pd pm pe] 38)).alloc (.cells #[.bool c, .slice qa qn qc, .slice qd qm qe] 38)) ((w.alloc (.cells #[.bool b, .slice pa pn pc, .slice pd pm pe] 38)).alloc (.cells #[.bool c, .slice qa qn qc, .slice qd qm qe] 38)) := More.refl _
  have HB : ∀ w', More ((w.alloc (.cells #[.bool b, .slice pa pn pc, .slice pd pm pe] 38)).alloc (.cells #[.bool c, .slice qa qn qc, .slice qd qm qe] 38)) w' → w'.cell? ⟨w.heap.size, 0, none⟩ = some (.bool b) ∧ w'.cell? ⟨w.heap.size, 1, none⟩ = some (.slice pa pn pc) ∧ w'.cell? ⟨w.heap.size, 2, none⟩ = some (.slice pd pm pe) ∧ (∀ j, w'.frozen? ⟨w.heap.size, j, none⟩ = false) ∧ w'.cell? ⟨w.heap.size + 1, 0, none⟩ = some (.bool c) ∧ w'.cell? ⟨w.heap.size + 1, 1, none⟩ = some (.slice qa qn qc) ∧ w'.cell? ⟨w.heap.size + 1, 2, none⟩ = some (.slice qd qm qe) ∧ (∀ j, w'.frozen? ⟨w.heap.size + 1, j, none⟩ = false) := fun w' h => ⟨box_new (by simp) (More.un h) 0, box_new (by simp) (More.un h) 1, box_new (by simp) (More.un h) 2, fun j => box_free (by simp) (More.un h) j, box_new (by simp) h 0, box_new (by simp) h 1, box_new (by simp) h 2, fun j => box_free (by simp) h j⟩
  have HC := fun (w' : World) (h : Turns [] ((w.alloc (.cells #[.bool b, .slice pa pn pc, .slice pd pm pe] 38)).alloc (.cells #[.bool c, .slice qa qn qc, .slice qd qm qe] 38)) w') => HB w' (Turns.more h)
  go_enter Try.func27, Try.ntmps27
  go_wp2_with (first | (go_at_call 12; (with_reducible refine (spec_RatOk b (.slice pa pn pc) (.slice pd pm pe) x _ (Ty.at_more Hp.out mC) Wp.out).mono ?_); rintro e w1 ⟨rfl, hb1⟩; have HX1 : More ((w.alloc (.cells #[.bool b, .slice pa pn pc, .slice pd pm pe] 38)).alloc (.cells #[.bool c, .slice qa qn qc, .slice qd qm qe] 38)) w1 := mC; have HB1 := HB _ HX1; have hz1 := More.size HX1; (try simp at hz1); have hb1 := hb1; rw [Kp.out]) | (go_at_call 12; (with_reducible refine (spec_RatOk c (.slice qa qn qc) (.slice qd qm qe) y _ (Ty.at_more Hq.out mC) Wq.out).mono ?_); rintro e w2 ⟨rfl, hb2⟩; have HX2 : More ((w.alloc (.cells #[.bool b, .slice pa pn pc, .slice pd pm pe] 38)).alloc (.cells #[.bool c, .slice qa qn qc, .slice qd qm qe] 38)) w2 := mC; have HB2 := HB _ HX2; have hz2 := More.size HX2; (try simp at hz2); have hb2 := hb2; rw [Kq.out]) | (go_at_call 46; (with_reducible refine (spec_l04CmpB (frOf x) (frOf y) b c (.slice pa pn pc) (.slice pd pm pe) (.slice qa qn qc) (.slice qd qm qe) _ Sp.out Sq.out (RatAt.more Ap.out mC) Vp.out (RatAt.more Aq.out mC) Vq.out).mono ?_); rintro e w3 ⟨rfl, hb3⟩; have HX3 : More ((w.alloc (.cells #[.bool b, .slice pa pn pc, .slice pd pm pe] 38)).alloc (.cells #[.bool c, .slice qa qn qc, .slice qd qm qe] 38)) w3 := mC; have HB3 := HB _ HX3; have hz3 := More.size HX3; (try simp at hz3); have hb3 := hb3))
  go_ret
  exact ⟨rfl, mC⟩
end Go.Proofs.Ytnbefpfijaimjaa
