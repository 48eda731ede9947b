/- ParsePoint: the program's and the reference's. -/
import Derived.Test.YtnbefpfijaimjaaGreatDoorStl
namespace Go.Proofs.YtnbefpfijaimjaaGreatDoor
open Go.RowKit
noncomputable def ppm (a b : Option Fr) : Option (Fr × Fr) := match a, b with
  | some a, some b => some (a, b)
  | _, _ => none
theorem pP_ppm {l : List UInt8} : pP l = if (cutC 44 l).2.2 then ppm (pR (cutC 44 l).1) (pR (cutC 44 l).2.1) else none := by
  unfold pP ppm
  rfl
theorem splitC_parts (c : UInt8) : ∀ l : List UInt8, ∀ p ∈ splitC c l, p.length ≤ l.length
  | [], p, hp => by simp [splitC] at hp; rw [hp]; simp
  | b :: t, p, hp => by
    have h := splitC_parts c t
    rw [splitC] at hp
    split at hp
    · rcases List.mem_cons.1 hp with rfl | hp
      · simp
      · have := h p hp; simp; omega
    · split at hp
      · rename_i h' r e
        rcases List.mem_cons.1 hp with rfl | hp
        · have := h h' (by rw [e]; exact List.mem_cons_self ..); simp; omega
        · have := h p (by rw [e]; exact List.mem_cons_of_mem _ hp); simp; omega
      · simp at hp; rw [hp]; simp
theorem point_join {B : Nat} {bs : List Nat} {w1 W : World} {a b c d e f : Value} {x y : QR} (h1 : tRat.fresh B w1 [a, b, c] x) (t : Turns bs w1 W) (hk : ∀ k ∈ bs, k < B) (h2 : tRat.fresh w1.heap.size W [d, e, f] y) (hB : B ≤ w1.heap.size) : tPoint.fresh B W [a, b, c, d, e, f] (x, y) :=
  Ty.fresh_pairT (c1 := [a, b, c]) (c2 := [d, e, f]) h1 t hk h2 hB
theorem point_none (B : Nat) (w : World) (hB : B ≤ w.heap.size) : tPoint.fresh B w [.bool false, .slice none 0 0, .slice none 0 0, .bool false, .slice none 0 0, .slice none 0 0] (encR (0, 0), encR (0, 0)) := point_join (bs := []) (rat_none B w hB) (Turns.refl _ _) (by simp) (rat_none _ _ (Nat.le_refl _)) hB
set_option maxRecDepth 8000 in
set_option maxHeartbeats 6400000 in
theorem impl_ParsePoint (l : List UInt8) (w : World) (hl : l.length ≤ 1048576) (ht : PowTab w) :
    Calls Tryz.prog 6 #[.string (sB l)] w fun e w' => ∃ u v u' v', e = .returned (.tuple #[.agg #[.bool (decide (((pP l).getD ((0, 0), (0, 0))).1.1 < 0)), u, v, .bool (decide (((pP l).getD ((0, 0), (0, 0))).2.1 < 0)), u', v'], .bool (pP l).isSome]) ∧ More w w' ∧ tPoint.fresh w.heap.size w' [.bool (decide (((pP l).getD ((0, 0), (0, 0))).1.1 < 0)), u, v, .bool (decide (((pP l).getD ((0, 0), (0, 0))).2.1 < 0)), u', v'] (encR ((pP l).getD ((0, 0), (0, 0))).1, encR ((pP l).getD ((0, 0), (0, 0))).2) := by
  have HT := Lib.hid ht; clear ht
  have N0 : ∀ w', More (w.alloc (.cells #[.bool false, .slice none 0 0, .slice none 0 0, .bool false, .slice none 0 0, .slice none 0 0] 28)) w' → w'.cell? ⟨w.heap.size, 0, none⟩ = some (.bool false) ∧ w'.cell? ⟨w.heap.size, 1, none⟩ = some (.slice none 0 0) ∧ w'.cell? ⟨w.heap.size, 2, none⟩ = some (.slice none 0 0) ∧ w'.cell? ⟨w.heap.size, 3, none⟩ = some (.bool false) ∧ w'.cell? ⟨w.heap.size, 4, none⟩ = some (.slice none 0 0) ∧ w'.cell? ⟨w.heap.size, 5, none⟩ = some (.slice none 0 0) ∧ ∀ j, w'.frozen? ⟨w.heap.size, j, none⟩ = false := fun w' h => ⟨box_new rfl h 0, box_new rfl h 1, box_new rfl h 2, box_new rfl h 3, box_new rfl h 4, box_new rfl h 5, box_free rfl h⟩
  obtain ⟨x1, x2, x3, hC⟩ : ∃ x1 x2 x3, cutC 44 l = (x1, x2, x3) := ⟨_, _, _, rfl⟩
  have HC := Lib.hid hC
  have hx := cutC_len 44 l
  rw [hC] at hx
  have HX1 : Hid (x1.length ≤ 1048576) := Lib.hid (Nat.le_trans hx.1 hl)
  have HX2 : Hid (x2.length ≤ 1048576) := Lib.hid (Nat.le_trans hx.2 hl)
  have HPE0 : Hid (pP l = if x3 then ppm (pR x1) (pR x2) else none) := Lib.hid (by rw [pP_ppm, hC])
  clear hx hC
  obtain ⟨f, hf⟩ : ∃ f, f = (pR x1).getD (0, 0) := ⟨_, rfl⟩
  obtain ⟨o1, ho1⟩ : ∃ o, o = (pR x1).isSome := ⟨_, rfl⟩
  obtain ⟨g, hg⟩ : ∃ f, f = (pR x2).getD (0, 0) := ⟨_, rfl⟩
  obtain ⟨o2, ho2⟩ : ∃ o, o = (pR x2).isSome := ⟨_, rfl⟩
  have HF := Lib.hid hf; have HO1 := Lib.hid ho1; have HG := Lib.hid hg; have HO2 := Lib.hid ho2
  cases x3 with
  | false =>
    have HPR : Hid (pP l = none) := Lib.hid (by rw [HPE0.out]; rfl)
    clear hf ho1 hg ho2
    go_enter Tryz.func6, Tryz.ntmps6
    go_wp2_with (first | (go_at_call 23; refine (str_Cut l 44 _ hl).mono ?_; rintro e9 w1 ⟨rfl, hb1⟩; rw [HC.out]) | (go_at_call 24; (with_reducible refine (impl_ParseRat x1 _ HX1.out (HT.out.more mC)).mono ?_); rintro e9 w2 ⟨u1, v1, rfl, hb2, f2⟩; rw [← HF.out] at f2 ⊢; rw [← HO1.out]; obtain ⟨_, s1, s2⟩ := rat_split (Ty.fresh_at f2); obtain ⟨a2, n2, c2, rfl⟩ := sh1 s1; obtain ⟨a3, n3, c3, rfl⟩ := sh1 s2; have F2 := Lib.hid f2; clear f2 s1 s2; have HB1 : Hid (More (w.alloc (.cells #[.bool false, .slice none 0 0, .slice none 0 0, .bool false, .slice none 0 0, .slice none 0 0] 28)) w1) := Lib.hid hb1; have HB2 : Hid (More (w.alloc (.cells #[.bool false, .slice none 0 0, .slice none 0 0, .bool false, .slice none 0 0, .slice none 0 0] 28)) w2) := Lib.hid mC; have HB12 := Lib.hid hb2) | (go_at_call 24; (with_reducible refine (impl_ParseRat x2 _ HX2.out (HT.out.more mC)).mono ?_); rintro e9 w3 ⟨u2, v2, rfl, hb3, f3⟩; rw [← HG.out] at f3 ⊢; rw [← HO2.out]; obtain ⟨_, s3, s4⟩ := rat_split (Ty.fresh_at f3); obtain ⟨a4, n4, c4, rfl⟩ := sh1 s3; obtain ⟨a5, n5, c5, rfl⟩ := sh1 s4; have F3 := Lib.hid f3; clear f3 s3 s4; have HB23 : Hid (More w2 w3) := Lib.hid (More.trans (Turns.more ((Turns.refl [] w2).alloc _)) hb3); obtain ⟨z0, z1, z2, z3, z4, z5, zf⟩ := N0 w3 (More.trans HB2.out HB23.out); have zl : w.heap.size < w3.heap.size := Nat.lt_of_lt_of_le (by show w.heap.size < (w.heap.push _).size; rw [Array.size_push]; exact Nat.lt_succ_self _) (More.trans HB2.out HB23.out).size; have XB : Box3 w3 w2.heap.size (.bool (decide (f.1 < 0))) (.slice a2 n2 c2) (.slice a3 n3 c3) := Box3.new rfl hb3; have y0 := XB.c0; have y1 := XB.c1; have y2 := XB.c2; have y9 := XB.lt))
    refine bodyPost_ret (v := .tuple #[.agg #[.bool false, .slice none 0 0, .slice none 0 0, .bool false, .slice none 0 0, .slice none 0 0], .bool false]) ?_ rfl ?_
    rotate_left
    · refine ⟨.slice none 0 0, .slice none 0 0, .slice none 0 0, .slice none 0 0, by rw [HPR.out]; rfl, mC2, ?_⟩
      rw [HPR.out]
      exact point_none _ _ (More.size (show More w _ from mC2))
    · simp [results, Tryz.results6, go_sem, *]
  | true =>
  have HPE : Hid (pP l = ppm (pR x1) (pR x2)) := Lib.hid (by rw [HPE0.out]; rfl)
  cases ha : pR x1 with
  | none =>
    have e1 : o1 = false := by rw [ho1, ha]; rfl
    have HPR : Hid (pP l = none) := Lib.hid (by rw [HPE.out, ha]; rfl)
    clear hf ho1 hg ho2 ha
    subst e1
    go_enter Tryz.func6, Tryz.ntmps6
    go_wp2_with (first | (go_at_call 23; refine (str_Cut l 44 _ hl).mono ?_; rintro e9 w1 ⟨rfl, hb1⟩; rw [HC.out]) | (go_at_call 24; (with_reducible refine (impl_ParseRat x1 _ HX1.out (HT.out.more mC)).mono ?_); rintro e9 w2 ⟨u1, v1, rfl, hb2, f2⟩; rw [← HF.out] at f2 ⊢; rw [← HO1.out]; obtain ⟨_, s1, s2⟩ := rat_split (Ty.fresh_at f2); obtain ⟨a2, n2, c2, rfl⟩ := sh1 s1; obtain ⟨a3, n3, c3, rfl⟩ := sh1 s2; have F2 := Lib.hid f2; clear f2 s1 s2; have HB1 : Hid (More (w.alloc (.cells #[.bool false, .slice none 0 0, .slice none 0 0, .bool false, .slice none 0 0, .slice none 0 0] 28)) w1) := Lib.hid hb1; have HB2 : Hid (More (w.alloc (.cells #[.bool false, .slice none 0 0, .slice none 0 0, .bool false, .slice none 0 0, .slice none 0 0] 28)) w2) := Lib.hid mC; have HB12 := Lib.hid hb2) | (go_at_call 24; (with_reducible refine (impl_ParseRat x2 _ HX2.out (HT.out.more mC)).mono ?_); rintro e9 w3 ⟨u2, v2, rfl, hb3, f3⟩; rw [← HG.out] at f3 ⊢; rw [← HO2.out]; obtain ⟨_, s3, s4⟩ := rat_split (Ty.fresh_at f3); obtain ⟨a4, n4, c4, rfl⟩ := sh1 s3; obtain ⟨a5, n5, c5, rfl⟩ := sh1 s4; have F3 := Lib.hid f3; clear f3 s3 s4; have HB23 : Hid (More w2 w3) := Lib.hid (More.trans (Turns.more ((Turns.refl [] w2).alloc _)) hb3); obtain ⟨z0, z1, z2, z3, z4, z5, zf⟩ := N0 w3 (More.trans HB2.out HB23.out); have zl : w.heap.size < w3.heap.size := Nat.lt_of_lt_of_le (by show w.heap.size < (w.heap.push _).size; rw [Array.size_push]; exact Nat.lt_succ_self _) (More.trans HB2.out HB23.out).size; have XB : Box3 w3 w2.heap.size (.bool (decide (f.1 < 0))) (.slice a2 n2 c2) (.slice a3 n3 c3) := Box3.new rfl hb3; have y0 := XB.c0; have y1 := XB.c1; have y2 := XB.c2; have y9 := XB.lt))
    refine bodyPost_ret (v := .tuple #[.agg #[.bool false, .slice none 0 0, .slice none 0 0, .bool false, .slice none 0 0, .slice none 0 0], .bool false]) ?_ rfl ?_
    rotate_left
    · refine ⟨.slice none 0 0, .slice none 0 0, .slice none 0 0, .slice none 0 0, by rw [HPR.out]; rfl, mC2, ?_⟩
      rw [HPR.out]
      exact point_none _ _ (More.size (show More w _ from mC2))
    · simp [results, Tryz.results6, go_sem, *]
  | some f' =>
  have e1 : o1 = true := by rw [ho1, ha]; rfl
  have e2 : f = f' := by rw [hf, ha]; rfl
  cases hb : pR x2 with
  | none =>
    have e3 : o2 = false := by rw [ho2, hb]; rfl
    have HPR : Hid (pP l = none) := Lib.hid (by rw [HPE.out, ha, hb]; rfl)
    clear hf ho1 hg ho2 ha hb e2
    subst e1; subst e3
    go_enter Tryz.func6, Tryz.ntmps6
    go_wp2_with (first | (go_at_call 23; refine (str_Cut l 44 _ hl).mono ?_; rintro e9 w1 ⟨rfl, hb1⟩; rw [HC.out]) | (go_at_call 24; (with_reducible refine (impl_ParseRat x1 _ HX1.out (HT.out.more mC)).mono ?_); rintro e9 w2 ⟨u1, v1, rfl, hb2, f2⟩; rw [← HF.out] at f2 ⊢; rw [← HO1.out]; obtain ⟨_, s1, s2⟩ := rat_split (Ty.fresh_at f2); obtain ⟨a2, n2, c2, rfl⟩ := sh1 s1; obtain ⟨a3, n3, c3, rfl⟩ := sh1 s2; have F2 := Lib.hid f2; clear f2 s1 s2; have HB1 : Hid (More (w.alloc (.cells #[.bool false, .slice none 0 0, .slice none 0 0, .bool false, .slice none 0 0, .slice none 0 0] 28)) w1) := Lib.hid hb1; have HB2 : Hid (More (w.alloc (.cells #[.bool false, .slice none 0 0, .slice none 0 0, .bool false, .slice none 0 0, .slice none 0 0] 28)) w2) := Lib.hid mC; have HB12 := Lib.hid hb2) | (go_at_call 24; (with_reducible refine (impl_ParseRat x2 _ HX2.out (HT.out.more mC)).mono ?_); rintro e9 w3 ⟨u2, v2, rfl, hb3, f3⟩; rw [← HG.out] at f3 ⊢; rw [← HO2.out]; obtain ⟨_, s3, s4⟩ := rat_split (Ty.fresh_at f3); obtain ⟨a4, n4, c4, rfl⟩ := sh1 s3; obtain ⟨a5, n5, c5, rfl⟩ := sh1 s4; have F3 := Lib.hid f3; clear f3 s3 s4; have HB23 : Hid (More w2 w3) := Lib.hid (More.trans (Turns.more ((Turns.refl [] w2).alloc _)) hb3); obtain ⟨z0, z1, z2, z3, z4, z5, zf⟩ := N0 w3 (More.trans HB2.out HB23.out); have zl : w.heap.size < w3.heap.size := Nat.lt_of_lt_of_le (by show w.heap.size < (w.heap.push _).size; rw [Array.size_push]; exact Nat.lt_succ_self _) (More.trans HB2.out HB23.out).size; have XB : Box3 w3 w2.heap.size (.bool (decide (f.1 < 0))) (.slice a2 n2 c2) (.slice a3 n3 c3) := Box3.new rfl hb3; have y0 := XB.c0; have y1 := XB.c1; have y2 := XB.c2; have y9 := XB.lt))
    refine bodyPost_ret (v := .tuple #[.agg #[.bool false, .slice none 0 0, .slice none 0 0, .bool false, .slice none 0 0, .slice none 0 0], .bool false]) ?_ rfl ?_
    rotate_left
    · refine ⟨.slice none 0 0, .slice none 0 0, .slice none 0 0, .slice none 0 0, by rw [HPR.out]; rfl, mC2, ?_⟩
      rw [HPR.out]
      exact point_none _ _ (More.size (show More w _ from mC2))
    · simp [results, Tryz.results6, go_sem, *]
  | some g' =>
    have e3 : o2 = true := by rw [ho2, hb]; rfl
    have e4 : g = g' := by rw [hg, hb]; rfl
    have HPR : Hid (pP l = some (f, g)) := Lib.hid (by rw [HPE.out, ha, hb, e2, e4]; rfl)
    clear hf ho1 hg ho2 ha hb e2 e4
    subst e1; subst e3
    go_enter Tryz.func6, Tryz.ntmps6
    go_wp2_with (first | (go_at_call 23; refine (str_Cut l 44 _ hl).mono ?_; rintro e9 w1 ⟨rfl, hb1⟩; rw [HC.out]) | (go_at_call 24; (with_reducible refine (impl_ParseRat x1 _ HX1.out (HT.out.more mC)).mono ?_); rintro e9 w2 ⟨u1, v1, rfl, hb2, f2⟩; rw [← HF.out] at f2 ⊢; rw [← HO1.out]; obtain ⟨_, s1, s2⟩ := rat_split (Ty.fresh_at f2); obtain ⟨a2, n2, c2, rfl⟩ := sh1 s1; obtain ⟨a3, n3, c3, rfl⟩ := sh1 s2; have F2 := Lib.hid f2; clear f2 s1 s2; have HB1 : Hid (More (w.alloc (.cells #[.bool false, .slice none 0 0, .slice none 0 0, .bool false, .slice none 0 0, .slice none 0 0] 28)) w1) := Lib.hid hb1; have HB2 : Hid (More (w.alloc (.cells #[.bool false, .slice none 0 0, .slice none 0 0, .bool false, .slice none 0 0, .slice none 0 0] 28)) w2) := Lib.hid mC; have HB12 := Lib.hid hb2) | (go_at_call 24; (with_reducible refine (impl_ParseRat x2 _ HX2.out (HT.out.more mC)).mono ?_); rintro e9 w3 ⟨u2, v2, rfl, hb3, f3⟩; rw [← HG.out] at f3 ⊢; rw [← HO2.out]; obtain ⟨_, s3, s4⟩ := rat_split (Ty.fresh_at f3); obtain ⟨a4, n4, c4, rfl⟩ := sh1 s3; obtain ⟨a5, n5, c5, rfl⟩ := sh1 s4; have F3 := Lib.hid f3; clear f3 s3 s4; have HB23 : Hid (More w2 w3) := Lib.hid (More.trans (Turns.more ((Turns.refl [] w2).alloc _)) hb3); obtain ⟨z0, z1, z2, z3, z4, z5, zf⟩ := N0 w3 (More.trans HB2.out HB23.out); have zl : w.heap.size < w3.heap.size := Nat.lt_of_lt_of_le (by show w.heap.size < (w.heap.push _).size; rw [Array.size_push]; exact Nat.lt_succ_self _) (More.trans HB2.out HB23.out).size; have XB : Box3 w3 w2.heap.size (.bool (decide (f.1 < 0))) (.slice a2 n2 c2) (.slice a3 n3 c3) := Box3.new rfl hb3; have y0 := XB.c0; have y1 := XB.c1; have y2 := XB.c2; have y9 := XB.lt))
    refine bodyPost_ret (v := .tuple #[.agg #[.bool (decide (f.1 < 0)), .slice a2 n2 c2, .slice a3 n3 c3, .bool (decide (g.1 < 0)), .slice a4 n4 c4, .slice a5 n5 c5], .bool true]) ?_ rfl ?_
    rotate_left
    · refine ⟨.slice a2 n2 c2, .slice a3 n3 c3, .slice a4 n4 c4, .slice a5 n5 c5, by rw [HPR.out]; rfl, mC2, ?_⟩
      rw [HPR.out]
      refine Ty.fresh_mono (point_join (bs := [w.heap.size]) F2.out tC (by have h1 := HB1.out.size; simp at h1 ⊢; omega) (Ty.fresh_mono (Ty.fresh_turns (bs := [w.heap.size]) F3.out tC (by have h1 := HB2.out.size; simp at h1 ⊢; omega)) (by simp)) HB12.out.size) (by have h1 := HB1.out.size; simp at h1; omega)
    · simp [results, Tryz.results6, go_sem, *]
set_option maxRecDepth 8000 in
set_option maxHeartbeats 6400000 in
theorem spec_ParsePoint (l : List UInt8) (w : World) (hl : l.length ≤ 1048576) :
    Calls Tryz.prog 5 #[.string (sB l)] w fun e w' => ∃ u v u' v', e = .returned (.tuple #[.agg #[.bool (decide (((pP l).getD ((0, 0), (0, 0))).1.1 < 0)), u, v, .bool (decide (((pP l).getD ((0, 0), (0, 0))).2.1 < 0)), u', v'], .bool (pP l).isSome]) ∧ More w w' ∧ tPoint.fresh w.heap.size w' [.bool (decide (((pP l).getD ((0, 0), (0, 0))).1.1 < 0)), u, v, .bool (decide (((pP l).getD ((0, 0), (0, 0))).2.1 < 0)), u', v'] (encR ((pP l).getD ((0, 0), (0, 0))).1, encR ((pP l).getD ((0, 0), (0, 0))).2) := by
  have N0 : ∀ w', More (w.alloc (.cells #[.bool false, .slice none 0 0, .slice none 0 0, .bool false, .slice none 0 0, .slice none 0 0] 28)) w' → w'.cell? ⟨w.heap.size, 0, none⟩ = some (.bool false) ∧ w'.cell? ⟨w.heap.size, 1, none⟩ = some (.slice none 0 0) ∧ w'.cell? ⟨w.heap.size, 2, none⟩ = some (.slice none 0 0) ∧ w'.cell? ⟨w.heap.size, 3, none⟩ = some (.bool false) ∧ w'.cell? ⟨w.heap.size, 4, none⟩ = some (.slice none 0 0) ∧ w'.cell? ⟨w.heap.size, 5, none⟩ = some (.slice none 0 0) ∧ ∀ j, w'.frozen? ⟨w.heap.size, j, none⟩ = false := fun w' h => ⟨box_new rfl h 0, box_new rfl h 1, box_new rfl h 2, box_new rfl h 3, box_new rfl h 4, box_new rfl h 5, box_free rfl h⟩
  by_cases h2 : ∃ x1 x2, splitC 44 l = [x1, x2]
  rotate_left
  · have HPR : Hid (pP l = none) := Lib.hid (by
      rw [pP_split]
      split
      · rename_i a b he
        exact absurd ⟨a, b, he⟩ h2
      · rfl)
    obtain ⟨K, hK⟩ : ∃ K, K = (splitC 44 l).length := ⟨_, rfl⟩
    have hK2 : ((K : Int) == 2) = false := by
      rw [beq_eq_false_iff_ne]
      intro h
      have h3 : (splitC 44 l).length = 2 := by omega
      match hs : splitC 44 l, h3 with
      | [a, b], _ => exact h2 ⟨a, b, hs⟩
    have hK3 : ((K : Int) != 2) = true := by rw [bne, hK2]; rfl
    have HK := Lib.hid hK; clear hK h2
    go_enter Tryz.func5, Tryz.ntmps5
    go_wp2_with (go_at_call 21; refine (spec_SplitAny 44 l _ hl).mono ?_; rintro e9 w1 ⟨vw, rfl, hb1, fw⟩; obtain ⟨aw, cw, rfl⟩ := fw.len; rw [← HK.out]; clear fw; obtain ⟨z0, z1, z2, z3, z4, z5, zf⟩ := N0 w1 mC)
    refine bodyPost_ret (v := .tuple #[.agg #[.bool false, .slice none 0 0, .slice none 0 0, .bool false, .slice none 0 0, .slice none 0 0], .bool false]) ?_ rfl ?_
    rotate_left
    · refine ⟨.slice none 0 0, .slice none 0 0, .slice none 0 0, .slice none 0 0, by rw [HPR.out]; rfl, mC2, ?_⟩
      rw [HPR.out]
      exact point_none _ _ (More.size (show More w _ from mC2))
    · simp [results, Tryz.results5, go_sem, *]
  obtain ⟨x1, x2, hsp⟩ := h2
  have HSP := Lib.hid hsp
  have HPE : Hid (pP l = ppm (pR x1) (pR x2)) := Lib.hid (by rw [pP_split, hsp]; rfl)
  have hlen := splitC_parts 44 l
  rw [hsp] at hlen
  have HX1 : Hid (x1.length ≤ 1048576) := Lib.hid (Nat.le_trans (hlen x1 (by simp)) hl)
  have HX2 : Hid (x2.length ≤ 1048576) := Lib.hid (Nat.le_trans (hlen x2 (by simp)) hl)
  clear hsp hlen
  obtain ⟨f, hf⟩ : ∃ f, f = (pR x1).getD (0, 0) := ⟨_, rfl⟩
  obtain ⟨o1, ho1⟩ : ∃ o, o = (pR x1).isSome := ⟨_, rfl⟩
  obtain ⟨g, hg⟩ : ∃ f, f = (pR x2).getD (0, 0) := ⟨_, rfl⟩
  obtain ⟨o2, ho2⟩ : ∃ o, o = (pR x2).isSome := ⟨_, rfl⟩
  have HF := Lib.hid hf; have HO1 := Lib.hid ho1; have HG := Lib.hid hg; have HO2 := Lib.hid ho2
  cases ha : pR x1 with
  | none =>
    have e1 : o1 = false := by rw [ho1, ha]; rfl
    have HPR : Hid (pP l = none) := Lib.hid (by rw [HPE.out, ha]; rfl)
    clear hf ho1 hg ho2 ha
    subst e1
    go_enter Tryz.func5, Tryz.ntmps5
    go_wp2_with (first | (go_at_call 21; refine (spec_SplitAny 44 l _ hl).mono ?_; rintro e9 w1 ⟨vw, rfl, hb1, fw⟩; rw [HSP.out] at fw; obtain ⟨aw, cw, rfl⟩ := fw.len; obtain ⟨bw, ow, rfl, hbw, cw0⟩ := el_Str fw.at (k := 0) rfl; obtain ⟨bw', ow', e8, hbw', cw1⟩ := el_Str fw.at (k := 1) rfl; cases e8; simp only [Nat.add_zero] at cw0; clear fw) | (go_at_call 22; (with_reducible refine (spec_ParseRat x1 _ HX1.out).mono ?_); rintro e9 w2 ⟨u1, v1, rfl, hb2, f2⟩; rw [← HF.out] at f2 ⊢; rw [← HO1.out]; obtain ⟨_, s1, s2⟩ := rat_split (Ty.fresh_at f2); obtain ⟨a2, n2, c2, rfl⟩ := sh1 s1; obtain ⟨a3, n3, c3, rfl⟩ := sh1 s2; have F2 := Lib.hid f2; clear f2 s1 s2; have HB1 : Hid (More (w.alloc (.cells #[.bool false, .slice none 0 0, .slice none 0 0, .bool false, .slice none 0 0, .slice none 0 0] 28)) w1) := Lib.hid hb1; have HB2 : Hid (More (w.alloc (.cells #[.bool false, .slice none 0 0, .slice none 0 0, .bool false, .slice none 0 0, .slice none 0 0] 28)) w2) := Lib.hid mC; have HB12 := Lib.hid hb2; have cy1 : (w2.alloc (.cells #[.bool (decide (f.1 < 0)), .slice a2 n2 c2, .slice a3 n3 c3] 26)).cell? ⟨bw, ow + 1, none⟩ = some (.string (sB x2)) := ((bcell (More.trans hb2 (Turns.more ((Turns.refl [] w2).alloc _)))).1 _ _ hbw).trans cw1) | (go_at_call 22; (with_reducible refine (spec_ParseRat x2 _ HX2.out).mono ?_); rintro e9 w3 ⟨u2, v2, rfl, hb3, f3⟩; rw [← HG.out] at f3 ⊢; rw [← HO2.out]; obtain ⟨_, s3, s4⟩ := rat_split (Ty.fresh_at f3); obtain ⟨a4, n4, c4, rfl⟩ := sh1 s3; obtain ⟨a5, n5, c5, rfl⟩ := sh1 s4; have F3 := Lib.hid f3; clear f3 s3 s4; have HB23 : Hid (More w2 w3) := Lib.hid (More.trans (Turns.more ((Turns.refl [] w2).alloc _)) hb3); obtain ⟨z0, z1, z2, z3, z4, z5, zf⟩ := N0 w3 (More.trans HB2.out HB23.out); have zl : w.heap.size < w3.heap.size := Nat.lt_of_lt_of_le (by show w.heap.size < (w.heap.push _).size; rw [Array.size_push]; exact Nat.lt_succ_self _) (More.trans HB2.out HB23.out).size; have XB : Box3 w3 w2.heap.size (.bool (decide (f.1 < 0))) (.slice a2 n2 c2) (.slice a3 n3 c3) := Box3.new rfl hb3; have y0 := XB.c0; have y1 := XB.c1; have y2 := XB.c2; have y9 := XB.lt))
    refine bodyPost_ret (v := .tuple #[.agg #[.bool false, .slice none 0 0, .slice none 0 0, .bool false, .slice none 0 0, .slice none 0 0], .bool false]) ?_ rfl ?_
    rotate_left
    · refine ⟨.slice none 0 0, .slice none 0 0, .slice none 0 0, .slice none 0 0, by rw [HPR.out]; rfl, mC2, ?_⟩
      rw [HPR.out]
      exact point_none _ _ (More.size (show More w _ from mC2))
    · simp [results, Tryz.results5, go_sem, *]
  | some f' =>
  have e1 : o1 = true := by rw [ho1, ha]; rfl
  have e2 : f = f' := by rw [hf, ha]; rfl
  cases hb : pR x2 with
  | none =>
    have e3 : o2 = false := by rw [ho2, hb]; rfl
    have HPR : Hid (pP l = none) := Lib.hid (by rw [HPE.out, ha, hb]; rfl)
    clear hf ho1 hg ho2 ha hb e2
    subst e1; subst e3
    go_enter Tryz.func5, Tryz.ntmps5
    go_wp2_with (first | (go_at_call 21; refine (spec_SplitAny 44 l _ hl).mono ?_; rintro e9 w1 ⟨vw, rfl, hb1, fw⟩; rw [HSP.out] at fw; obtain ⟨aw, cw, rfl⟩ := fw.len; obtain ⟨bw, ow, rfl, hbw, cw0⟩ := el_Str fw.at (k := 0) rfl; obtain ⟨bw', ow', e8, hbw', cw1⟩ := el_Str fw.at (k := 1) rfl; cases e8; simp only [Nat.add_zero] at cw0; clear fw) | (go_at_call 22; (with_reducible refine (spec_ParseRat x1 _ HX1.out).mono ?_); rintro e9 w2 ⟨u1, v1, rfl, hb2, f2⟩; rw [← HF.out] at f2 ⊢; rw [← HO1.out]; obtain ⟨_, s1, s2⟩ := rat_split (Ty.fresh_at f2); obtain ⟨a2, n2, c2, rfl⟩ := sh1 s1; obtain ⟨a3, n3, c3, rfl⟩ := sh1 s2; have F2 := Lib.hid f2; clear f2 s1 s2; have HB1 : Hid (More (w.alloc (.cells #[.bool false, .slice none 0 0, .slice none 0 0, .bool false, .slice none 0 0, .slice none 0 0] 28)) w1) := Lib.hid hb1; have HB2 : Hid (More (w.alloc (.cells #[.bool false, .slice none 0 0, .slice none 0 0, .bool false, .slice none 0 0, .slice none 0 0] 28)) w2) := Lib.hid mC; have HB12 := Lib.hid hb2; have cy1 : (w2.alloc (.cells #[.bool (decide (f.1 < 0)), .slice a2 n2 c2, .slice a3 n3 c3] 26)).cell? ⟨bw, ow + 1, none⟩ = some (.string (sB x2)) := ((bcell (More.trans hb2 (Turns.more ((Turns.refl [] w2).alloc _)))).1 _ _ hbw).trans cw1) | (go_at_call 22; (with_reducible refine (spec_ParseRat x2 _ HX2.out).mono ?_); rintro e9 w3 ⟨u2, v2, rfl, hb3, f3⟩; rw [← HG.out] at f3 ⊢; rw [← HO2.out]; obtain ⟨_, s3, s4⟩ := rat_split (Ty.fresh_at f3); obtain ⟨a4, n4, c4, rfl⟩ := sh1 s3; obtain ⟨a5, n5, c5, rfl⟩ := sh1 s4; have F3 := Lib.hid f3; clear f3 s3 s4; have HB23 : Hid (More w2 w3) := Lib.hid (More.trans (Turns.more ((Turns.refl [] w2).alloc _)) hb3); obtain ⟨z0, z1, z2, z3, z4, z5, zf⟩ := N0 w3 (More.trans HB2.out HB23.out); have zl : w.heap.size < w3.heap.size := Nat.lt_of_lt_of_le (by show w.heap.size < (w.heap.push _).size; rw [Array.size_push]; exact Nat.lt_succ_self _) (More.trans HB2.out HB23.out).size; have XB : Box3 w3 w2.heap.size (.bool (decide (f.1 < 0))) (.slice a2 n2 c2) (.slice a3 n3 c3) := Box3.new rfl hb3; have y0 := XB.c0; have y1 := XB.c1; have y2 := XB.c2; have y9 := XB.lt))
    refine bodyPost_ret (v := .tuple #[.agg #[.bool false, .slice none 0 0, .slice none 0 0, .bool false, .slice none 0 0, .slice none 0 0], .bool false]) ?_ rfl ?_
    rotate_left
    · refine ⟨.slice none 0 0, .slice none 0 0, .slice none 0 0, .slice none 0 0, by rw [HPR.out]; rfl, mC2, ?_⟩
      rw [HPR.out]
      exact point_none _ _ (More.size (show More w _ from mC2))
    · simp [results, Tryz.results5, go_sem, *]
  | some g' =>
    have e3 : o2 = true := by rw [ho2, hb]; rfl
    have e4 : g = g' := by rw [hg, hb]; rfl
    have HPR : Hid (pP l = some (f, g)) := Lib.hid (by rw [HPE.out, ha, hb, e2, e4]; rfl)
    clear hf ho1 hg ho2 ha hb e2 e4
    subst e1; subst e3
    go_enter Tryz.func5, Tryz.ntmps5
    go_wp2_with (first | (go_at_call 21; refine (spec_SplitAny 44 l _ hl).mono ?_; rintro e9 w1 ⟨vw, rfl, hb1, fw⟩; rw [HSP.out] at fw; obtain ⟨aw, cw, rfl⟩ := fw.len; obtain ⟨bw, ow, rfl, hbw, cw0⟩ := el_Str fw.at (k := 0) rfl; obtain ⟨bw', ow', e8, hbw', cw1⟩ := el_Str fw.at (k := 1) rfl; cases e8; simp only [Nat.add_zero] at cw0; clear fw) | (go_at_call 22; (with_reducible refine (spec_ParseRat x1 _ HX1.out).mono ?_); rintro e9 w2 ⟨u1, v1, rfl, hb2, f2⟩; rw [← HF.out] at f2 ⊢; rw [← HO1.out]; obtain ⟨_, s1, s2⟩ := rat_split (Ty.fresh_at f2); obtain ⟨a2, n2, c2, rfl⟩ := sh1 s1; obtain ⟨a3, n3, c3, rfl⟩ := sh1 s2; have F2 := Lib.hid f2; clear f2 s1 s2; have HB1 : Hid (More (w.alloc (.cells #[.bool false, .slice none 0 0, .slice none 0 0, .bool false, .slice none 0 0, .slice none 0 0] 28)) w1) := Lib.hid hb1; have HB2 : Hid (More (w.alloc (.cells #[.bool false, .slice none 0 0, .slice none 0 0, .bool false, .slice none 0 0, .slice none 0 0] 28)) w2) := Lib.hid mC; have HB12 := Lib.hid hb2; have cy1 : (w2.alloc (.cells #[.bool (decide (f.1 < 0)), .slice a2 n2 c2, .slice a3 n3 c3] 26)).cell? ⟨bw, ow + 1, none⟩ = some (.string (sB x2)) := ((bcell (More.trans hb2 (Turns.more ((Turns.refl [] w2).alloc _)))).1 _ _ hbw).trans cw1) | (go_at_call 22; (with_reducible refine (spec_ParseRat x2 _ HX2.out).mono ?_); rintro e9 w3 ⟨u2, v2, rfl, hb3, f3⟩; rw [← HG.out] at f3 ⊢; rw [← HO2.out]; obtain ⟨_, s3, s4⟩ := rat_split (Ty.fresh_at f3); obtain ⟨a4, n4, c4, rfl⟩ := sh1 s3; obtain ⟨a5, n5, c5, rfl⟩ := sh1 s4; have F3 := Lib.hid f3; clear f3 s3 s4; have HB23 : Hid (More w2 w3) := Lib.hid (More.trans (Turns.more ((Turns.refl [] w2).alloc _)) hb3); obtain ⟨z0, z1, z2, z3, z4, z5, zf⟩ := N0 w3 (More.trans HB2.out HB23.out); have zl : w.heap.size < w3.heap.size := Nat.lt_of_lt_of_le (by show w.heap.size < (w.heap.push _).size; rw [Array.size_push]; exact Nat.lt_succ_self _) (More.trans HB2.out HB23.out).size; have XB : Box3 w3 w2.heap.size (.bool (decide (f.1 < 0))) (.slice a2 n2 c2) (.slice a3 n3 c3) := Box3.new rfl hb3; have y0 := XB.c0; have y1 := XB.c1; have y2 := XB.c2; have y9 := XB.lt))
    refine bodyPost_ret (v := .tuple #[.agg #[.bool (decide (f.1 < 0)), .slice a2 n2 c2, .slice a3 n3 c3, .bool (decide (g.1 < 0)), .slice a4 n4 c4, .slice a5 n5 c5], .bool true]) ?_ rfl ?_
    rotate_left
    · refine ⟨.slice a2 n2 c2, .slice a3 n3 c3, .slice a4 n4 c4, .slice a5 n5 c5, by rw [HPR.out]; rfl, mC2, ?_⟩
      rw [HPR.out]
      refine Ty.fresh_mono (point_join (bs := [w.heap.size]) F2.out tC (by have h1 := HB1.out.size; simp at h1 ⊢; omega) (Ty.fresh_mono (Ty.fresh_turns (bs := [w.heap.size]) F3.out tC (by have h1 := HB2.out.size; simp at h1 ⊢; omega)) (by simp)) HB12.out.size) (by have h1 := HB1.out.size; simp at h1; omega)
    · simp [results, Tryz.results5, go_sem, *]
end Go.Proofs.YtnbefpfijaimjaaGreatDoor
