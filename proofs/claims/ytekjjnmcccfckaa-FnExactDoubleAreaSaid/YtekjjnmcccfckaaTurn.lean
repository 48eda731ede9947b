/- Contracts of Turn: the reference's and the program's compute the same number of three vectors. -/
import Derived.Test.YtekjjnmcccfckaaVec
import Derived.Deep.RegionHeld3
namespace Go.Proofs.Ytekjjnmcccfckaa
open Go.RowKit
/-- The Turn of three vectors. -/
def tn (a b c : QV) : Int := (b.1 - a.1) * (c.2 - a.2) - (b.2 - a.2) * (c.1 - a.1)
def turnF (a b c : QV) : Int := if [a, b, c].all isV then tn a b c else 0
theorem mul_bd {x y : Int} (A B : Nat) (h1 : -(A : Int) ≤ x ∧ x ≤ A) (h2 : -(B : Int) ≤ y ∧ y ≤ B) : -((A * B : Nat) : Int) ≤ x * y ∧ x * y ≤ ((A * B : Nat) : Int) := by
  have : (x * y).natAbs ≤ A * B := by
    rw [Int.natAbs_mul]
    exact Nat.mul_le_mul (by omega) (by omega)
  omega
theorem tn_bound {a b c : QV} (ha : isV a = true) (hb : isV b = true) (hc : isV c = true) : -8000000 ≤ tn a b c ∧ tn a b c ≤ 8000000 := by
  rw [isV_iff] at ha hb hc
  have h1 := mul_bd (x := b.1 - a.1) (y := c.2 - a.2) 2000 2000 (by omega) (by omega)
  have h2 := mul_bd (x := b.2 - a.2) (y := c.1 - a.1) 2000 2000 (by omega) (by omega)
  unfold tn
  omega

set_option maxHeartbeats 400000 in
theorem impl_turn (a1 a2 b1 b2 c1 c2 : Int) (w : World) (ha : isV (a1, a2) = true) (hb : isV (b1, b2) = true) (hc : isV (c1, c2) = true) :
    Calls Try.prog 54 #[.agg #[.int .i64 a1, .int .i64 a2], .agg #[.int .i64 b1, .int .i64 b2], .agg #[.int .i64 c1, .int .i64 c2]] w fun e w' => e = .returned (.int .i64 (tn (a1, a2) (b1, b2) (c1, c2))) ∧ More w w' := by
  rw [isV_iff] at ha hb hc
  obtain ⟨⟨h1, h2⟩, h3, h4⟩ := ha
  obtain ⟨⟨h5, h6⟩, h7, h8⟩ := hb
  obtain ⟨⟨h9, h10⟩, h11, h12⟩ := hc
  simp only at h1 h2 h3 h4 h5 h6 h7 h8 h9 h10 h11 h12
  obtain ⟨p1, p2⟩ := mul_bd (x := b1 - a1) (y := c2 - a2) 2000 2000 (by omega) (by omega)
  obtain ⟨p3, p4⟩ := mul_bd (x := b2 - a2) (y := c1 - a1) 2000 2000 (by omega) (by omega)
  go_enter Try.func54, Try.ntmps54
  go_wp2
  go_ret
  exact ⟨rfl, (Turns.more (by repeat (first | (with_reducible exact Turns.refl _ _) | (with_reducible apply Turns.drew) | (with_reducible apply Turns.alloc) | (with_reducible refine Turns.via (by assumption) ?_))))⟩
set_option maxHeartbeats 800000 in
theorem impl_Turn (a1 a2 b1 b2 c1 c2 : Int) (w : World) (ia : In64 a1 ∧ In64 a2) (ib : In64 b1 ∧ In64 b2) (ic : In64 c1 ∧ In64 c2) :
    Calls Try.prog 22 #[.agg #[.int .i64 a1, .int .i64 a2], .agg #[.int .i64 b1, .int .i64 b2], .agg #[.int .i64 c1, .int .i64 c2]] w fun e w' => e = .returned (.int .i64 (turnF (a1, a2) (b1, b2) (c1, c2))) ∧ More w w' := by
  have IA := Lib.hid ia; have IB := Lib.hid ib; have IC := Lib.hid ic
  clear ia ib ic
  have hok : Hid (∀ x ∈ [(a1, a2), (b1, b2), (c1, c2)], fVec.ok x) := Lib.hid (by
    intro x hx
    simp only [List.mem_cons, List.not_mem_nil, or_false] at hx
    rcases hx with rfl | rfl | rfl
    · exact IA.out
    · exact IB.out
    · exact IC.out)
  rcases Bool.eq_false_or_eq_true ([(a1, a2), (b1, b2), (c1, c2)].all isV) with h | h
  · have H := Lib.hid h
    obtain ⟨ha, hb, hc⟩ : isV (a1, a2) = true ∧ isV (b1, b2) = true ∧ isV (c1, c2) = true := by simpa using h
    have HA := Lib.hid ha; have HB := Lib.hid hb; have HC := Lib.hid hc
    clear h ha hb hc
    go_enter Try.func22, Try.ntmps22
    go_wp2_with fail
    refine (impl_areVecs _ [(a1, a2), (b1, b2), (c1, c2)] _ (Ty.fresh_at (lit_fresh fVec (by simp) rfl rfl (by simp) hok.out)) (by simp)).mono ?_
    rintro e w1 ⟨rfl, hb1⟩
    rw [H.out]
    obtain ⟨hc1, hf1⟩ := bcell hb1
    go_wp2_with fail
    refine (impl_turn _ _ _ _ _ _ _ HA.out HB.out HC.out).mono ?_
    rintro e w2 ⟨rfl, hb2⟩
    go_wp2_with fail
    go_ret
    exact ⟨ret_int (by rw [turnF, if_pos H.out]), (Turns.more (by repeat (first | (with_reducible exact Turns.refl _ _) | (with_reducible apply Turns.drew) | (with_reducible apply Turns.alloc) | (with_reducible refine Turns.via (by assumption) ?_))))⟩
  · have H := Lib.hid h
    clear h
    go_enter Try.func22, Try.ntmps22
    go_wp2_with fail
    refine (impl_areVecs _ [(a1, a2), (b1, b2), (c1, c2)] _ (Ty.fresh_at (lit_fresh fVec (by simp) rfl rfl (by simp) hok.out)) (by simp)).mono ?_
    rintro e w1 ⟨rfl, hb1⟩
    rw [H.out]
    go_wp2_with fail
    go_ret
    exact ⟨ret_int (by rw [turnF, H.out]; rfl), (Turns.more (by repeat (first | (with_reducible exact Turns.refl _ _) | (with_reducible apply Turns.drew) | (with_reducible apply Turns.alloc) | (with_reducible refine Turns.via (by assumption) ?_))))⟩
set_option maxHeartbeats 1600000 in
theorem spec_Turn (a1 a2 b1 b2 c1 c2 : Int) (w : World) :
    Calls Try.prog 20 #[.agg #[.int .i64 a1, .int .i64 a2], .agg #[.int .i64 b1, .int .i64 b2], .agg #[.int .i64 c1, .int .i64 c2]] w fun e w' => e = .returned (.int .i64 (turnF (a1, a2) (b1, b2) (c1, c2))) ∧ More w w' := by
  rcases Bool.eq_false_or_eq_true (isV (a1, a2)) with ha | ha
  · rcases Bool.eq_false_or_eq_true (isV (b1, b2)) with hb | hb
    · rcases Bool.eq_false_or_eq_true (isV (c1, c2)) with hc | hc
      · have H : Hid ([(a1, a2), (b1, b2), (c1, c2)].all isV = true) := Lib.hid (by simp [ha, hb, hc])
        have ha' := ha; have hb' := hb; have hc' := hc
        rw [isV_iff] at ha' hb' hc'
        obtain ⟨⟨h1, h2⟩, h3, h4⟩ := ha'
        obtain ⟨⟨h5, h6⟩, h7, h8⟩ := hb'
        obtain ⟨⟨h9, h10⟩, h11, h12⟩ := hc'
        simp only at h1 h2 h3 h4 h5 h6 h7 h8 h9 h10 h11 h12
        obtain ⟨p1, p2⟩ := mul_bd (x := b1 - a1) (y := c2 - a2) 2000 2000 (by omega) (by omega)
        obtain ⟨p3, p4⟩ := mul_bd (x := b2 - a2) (y := c1 - a1) 2000 2000 (by omega) (by omega)
        have HX : More (((w.alloc (.cells #[.int .i64 a1, .int .i64 a2] 29)).alloc (.cells #[.int .i64 b1, .int .i64 b2] 29)).alloc (.cells #[.int .i64 c1, .int .i64 c2] 29)) (((w.alloc (.cells #[.int .i64 a1, .int .i64 a2] 29)).alloc (.cells #[.int .i64 b1, .int .i64 b2] 29)).alloc (.cells #[.int .i64 c1, .int .i64 c2] 29)) := More.refl _
        have HB : ∀ w', More (((w.alloc (.cells #[.int .i64 a1, .int .i64 a2] 29)).alloc (.cells #[.int .i64 b1, .int .i64 b2] 29)).alloc (.cells #[.int .i64 c1, .int .i64 c2] 29)) w' → w'.cell? ⟨w.heap.size, 0, none⟩ = some (.int .i64 a1) ∧ w'.cell? ⟨w.heap.size, 1, none⟩ = some (.int .i64 a2) ∧ (∀ j, w'.frozen? ⟨w.heap.size, j, none⟩ = false) ∧ w'.cell? ⟨w.heap.size + 1, 0, none⟩ = some (.int .i64 b1) ∧ w'.cell? ⟨w.heap.size + 1, 1, none⟩ = some (.int .i64 b2) ∧ (∀ j, w'.frozen? ⟨w.heap.size + 1, j, none⟩ = false) ∧ w'.cell? ⟨w.heap.size + 1 + 1, 0, none⟩ = some (.int .i64 c1) ∧ w'.cell? ⟨w.heap.size + 1 + 1, 1, none⟩ = some (.int .i64 c2) ∧ (∀ j, w'.frozen? ⟨w.heap.size + 1 + 1, j, none⟩ = false) := fun w' h => ⟨box_new (by simp) (More.un (More.un h)) 0, box_new (by simp) (More.un (More.un h)) 1, fun j => box_free (by simp) (More.un (More.un h)) j, box_new (by simp) (More.un h) 0, box_new (by simp) (More.un h) 1, fun j => box_free (by simp) (More.un h) j, box_new (by simp) h 0, box_new (by simp) h 1, fun j => box_free (by simp) h j⟩
        go_enter Try.func20, Try.ntmps20
        go_wp2_with (go_at_call 52; refine (spec_IsValidVec _ _ _).mono ?_; rintro e w1 ⟨rfl, hb1⟩; have HX : More (((w.alloc (.cells #[.int .i64 a1, .int .i64 a2] 29)).alloc (.cells #[.int .i64 b1, .int .i64 b2] 29)).alloc (.cells #[.int .i64 c1, .int .i64 c2] 29)) _ := More.trans (by assumption) hb1; have HBw := HB _ HX)
        go_ret
        exact ⟨ret_int (by rw [turnF, if_pos H.out]; rfl), (Turns.more (by repeat (first | (with_reducible exact Turns.refl _ _) | (with_reducible apply Turns.drew) | (with_reducible apply Turns.alloc) | (with_reducible refine Turns.via (by assumption) ?_))))⟩
      · have H : Hid ([(a1, a2), (b1, b2), (c1, c2)].all isV = false) := Lib.hid (by simp [ha, hb, hc])
        have HX : More (((w.alloc (.cells #[.int .i64 a1, .int .i64 a2] 29)).alloc (.cells #[.int .i64 b1, .int .i64 b2] 29)).alloc (.cells #[.int .i64 c1, .int .i64 c2] 29)) (((w.alloc (.cells #[.int .i64 a1, .int .i64 a2] 29)).alloc (.cells #[.int .i64 b1, .int .i64 b2] 29)).alloc (.cells #[.int .i64 c1, .int .i64 c2] 29)) := More.refl _
        have HB : ∀ w', More (((w.alloc (.cells #[.int .i64 a1, .int .i64 a2] 29)).alloc (.cells #[.int .i64 b1, .int .i64 b2] 29)).alloc (.cells #[.int .i64 c1, .int .i64 c2] 29)) w' → w'.cell? ⟨w.heap.size, 0, none⟩ = some (.int .i64 a1) ∧ w'.cell? ⟨w.heap.size, 1, none⟩ = some (.int .i64 a2) ∧ (∀ j, w'.frozen? ⟨w.heap.size, j, none⟩ = false) ∧ w'.cell? ⟨w.heap.size + 1, 0, none⟩ = some (.int .i64 b1) ∧ w'.cell? ⟨w.heap.size + 1, 1, none⟩ = some (.int .i64 b2) ∧ (∀ j, w'.frozen? ⟨w.heap.size + 1, j, none⟩ = false) ∧ w'.cell? ⟨w.heap.size + 1 + 1, 0, none⟩ = some (.int .i64 c1) ∧ w'.cell? ⟨w.heap.size + 1 + 1, 1, none⟩ = some (.int .i64 c2) ∧ (∀ j, w'.frozen? ⟨w.heap.size + 1 + 1, j, none⟩ = false) := fun w' h => ⟨box_new (by simp) (More.un (More.un h)) 0, box_new (by simp) (More.un (More.un h)) 1, fun j => box_free (by simp) (More.un (More.un h)) j, box_new (by simp) (More.un h) 0, box_new (by simp) (More.un h) 1, fun j => box_free (by simp) (More.un h) j, box_new (by simp) h 0, box_new (by simp) h 1, fun j => box_free (by simp) h j⟩
        go_enter Try.func20, Try.ntmps20
        go_wp2_with (go_at_call 52; refine (spec_IsValidVec _ _ _).mono ?_; rintro e w1 ⟨rfl, hb1⟩; have HX : More (((w.alloc (.cells #[.int .i64 a1, .int .i64 a2] 29)).alloc (.cells #[.int .i64 b1, .int .i64 b2] 29)).alloc (.cells #[.int .i64 c1, .int .i64 c2] 29)) _ := More.trans (by assumption) hb1; have HBw := HB _ HX)
        go_ret
        exact ⟨ret_int (by rw [turnF, H.out]; rfl), (Turns.more (by repeat (first | (with_reducible exact Turns.refl _ _) | (with_reducible apply Turns.drew) | (with_reducible apply Turns.alloc) | (with_reducible refine Turns.via (by assumption) ?_))))⟩
    · have H : Hid ([(a1, a2), (b1, b2), (c1, c2)].all isV = false) := Lib.hid (by simp [ha, hb])
      have HX : More (((w.alloc (.cells #[.int .i64 a1, .int .i64 a2] 29)).alloc (.cells #[.int .i64 b1, .int .i64 b2] 29)).alloc (.cells #[.int .i64 c1, .int .i64 c2] 29)) (((w.alloc (.cells #[.int .i64 a1, .int .i64 a2] 29)).alloc (.cells #[.int .i64 b1, .int .i64 b2] 29)).alloc (.cells #[.int .i64 c1, .int .i64 c2] 29)) := More.refl _
      have HB : ∀ w', More (((w.alloc (.cells #[.int .i64 a1, .int .i64 a2] 29)).alloc (.cells #[.int .i64 b1, .int .i64 b2] 29)).alloc (.cells #[.int .i64 c1, .int .i64 c2] 29)) w' → w'.cell? ⟨w.heap.size, 0, none⟩ = some (.int .i64 a1) ∧ w'.cell? ⟨w.heap.size, 1, none⟩ = some (.int .i64 a2) ∧ (∀ j, w'.frozen? ⟨w.heap.size, j, none⟩ = false) ∧ w'.cell? ⟨w.heap.size + 1, 0, none⟩ = some (.int .i64 b1) ∧ w'.cell? ⟨w.heap.size + 1, 1, none⟩ = some (.int .i64 b2) ∧ (∀ j, w'.frozen? ⟨w.heap.size + 1, j, none⟩ = false) ∧ w'.cell? ⟨w.heap.size + 1 + 1, 0, none⟩ = some (.int .i64 c1) ∧ w'.cell? ⟨w.heap.size + 1 + 1, 1, none⟩ = some (.int .i64 c2) ∧ (∀ j, w'.frozen? ⟨w.heap.size + 1 + 1, j, none⟩ = false) := fun w' h => ⟨box_new (by simp) (More.un (More.un h)) 0, box_new (by simp) (More.un (More.un h)) 1, fun j => box_free (by simp) (More.un (More.un h)) j, box_new (by simp) (More.un h) 0, box_new (by simp) (More.un h) 1, fun j => box_free (by simp) (More.un h) j, box_new (by simp) h 0, box_new (by simp) h 1, fun j => box_free (by simp) h j⟩
      go_enter Try.func20, Try.ntmps20
      go_wp2_with (go_at_call 52; refine (spec_IsValidVec _ _ _).mono ?_; rintro e w1 ⟨rfl, hb1⟩; have HX : More (((w.alloc (.cells #[.int .i64 a1, .int .i64 a2] 29)).alloc (.cells #[.int .i64 b1, .int .i64 b2] 29)).alloc (.cells #[.int .i64 c1, .int .i64 c2] 29)) _ := More.trans (by assumption) hb1; have HBw := HB _ HX)
      go_ret
      exact ⟨ret_int (by rw [turnF, H.out]; rfl), (Turns.more (by repeat (first | (with_reducible exact Turns.refl _ _) | (with_reducible apply Turns.drew) | (with_reducible apply Turns.alloc) | (with_reducible refine Turns.via (by assumption) ?_))))⟩
  · have H : Hid ([(a1, a2), (b1, b2), (c1, c2)].all isV = false) := Lib.hid (by simp [ha])
    have HX : More (((w.alloc (.cells #[.int .i64 a1, .int .i64 a2] 29)).alloc (.cells #[.int .i64 b1, .int .i64 b2] 29)).alloc (.cells #[.int .i64 c1, .int .i64 c2] 29)) (((w.alloc (.cells #[.int .i64 a1, .int .i64 a2] 29)).alloc (.cells #[.int .i64 b1, .int .i64 b2] 29)).alloc (.cells #[.int .i64 c1, .int .i64 c2] 29)) := More.refl _
    have HB : ∀ w', More (((w.alloc (.cells #[.int .i64 a1, .int .i64 a2] 29)).alloc (.cells #[.int .i64 b1, .int .i64 b2] 29)).alloc (.cells #[.int .i64 c1, .int .i64 c2] 29)) w' → w'.cell? ⟨w.heap.size, 0, none⟩ = some (.int .i64 a1) ∧ w'.cell? ⟨w.heap.size, 1, none⟩ = some (.int .i64 a2) ∧ (∀ j, w'.frozen? ⟨w.heap.size, j, none⟩ = false) ∧ w'.cell? ⟨w.heap.size + 1, 0, none⟩ = some (.int .i64 b1) ∧ w'.cell? ⟨w.heap.size + 1, 1, none⟩ = some (.int .i64 b2) ∧ (∀ j, w'.frozen? ⟨w.heap.size + 1, j, none⟩ = false) ∧ w'.cell? ⟨w.heap.size + 1 + 1, 0, none⟩ = some (.int .i64 c1) ∧ w'.cell? ⟨w.heap.size + 1 + 1, 1, none⟩ = some (.int .i64 c2) ∧ (∀ j, w'.frozen? ⟨w.heap.size + 1 + 1, j, none⟩ = false) := fun w' h => ⟨box_new (by simp) (More.un (More.un h)) 0, box_new (by simp) (More.un (More.un h)) 1, fun j => box_free (by simp) (More.un (More.un h)) j, box_new (by simp) (More.un h) 0, box_new (by simp) (More.un h) 1, fun j => box_free (by simp) (More.un h) j, box_new (by simp) h 0, box_new (by simp) h 1, fun j => box_free (by simp) h j⟩
    go_enter Try.func20, Try.ntmps20
    go_wp2_with (go_at_call 52; refine (spec_IsValidVec _ _ _).mono ?_; rintro e w1 ⟨rfl, hb1⟩; have HX : More (((w.alloc (.cells #[.int .i64 a1, .int .i64 a2] 29)).alloc (.cells #[.int .i64 b1, .int .i64 b2] 29)).alloc (.cells #[.int .i64 c1, .int .i64 c2] 29)) _ := More.trans (by assumption) hb1; have HBw := HB _ HX)
    go_ret
    exact ⟨ret_int (by rw [turnF, H.out]; rfl), (Turns.more (by repeat (first | (with_reducible exact Turns.refl _ _) | (with_reducible apply Turns.drew) | (with_reducible apply Turns.alloc) | (with_reducible refine Turns.via (by assumption) ?_))))⟩
set_option maxHeartbeats 800000 in
theorem law_Turn {W : World} (ca : Array Value) (a : QV) (ha : tVec.at W ca.toList a) (cb : Array Value) (b : QV) (hb : tVec.at W cb.toList b) (cc : Array Value) (c : QV) (hc : tVec.at W cc.toList c) :
    Calls Try.prog 5 #[.agg ca, .agg cb, .agg cc] W fun e w' => e = .returned (.bool true) ∧ More W w' := by
  obtain ⟨rfl, a1, a2⟩ := vec_arr ha
  obtain ⟨rfl, b1, b2⟩ := vec_arr hb
  obtain ⟨rfl, c1, c2⟩ := vec_arr hc
  clear ha hb hc
  obtain ⟨ax, ay⟩ := a
  obtain ⟨bx, bY⟩ := b
  obtain ⟨cx, cy⟩ := c
  have IA := Lib.hid (And.intro a1 a2); have IB := Lib.hid (And.intro b1 b2); have IC := Lib.hid (And.intro c1 c2)
  clear a1 a2 b1 b2 c1 c2
  have HX : More (((W.alloc (.cells #[.int .i64 ax, .int .i64 ay] 25)).alloc (.cells #[.int .i64 bx, .int .i64 bY] 25)).alloc (.cells #[.int .i64 cx, .int .i64 cy] 25)) (((W.alloc (.cells #[.int .i64 ax, .int .i64 ay] 25)).alloc (.cells #[.int .i64 bx, .int .i64 bY] 25)).alloc (.cells #[.int .i64 cx, .int .i64 cy] 25)) := More.refl _
  have HB : ∀ w', More (((W.alloc (.cells #[.int .i64 ax, .int .i64 ay] 25)).alloc (.cells #[.int .i64 bx, .int .i64 bY] 25)).alloc (.cells #[.int .i64 cx, .int .i64 cy] 25)) w' → w'.cell? ⟨W.heap.size, 0, none⟩ = some (.int .i64 ax) ∧ w'.cell? ⟨W.heap.size, 1, none⟩ = some (.int .i64 ay) ∧ (∀ j, w'.frozen? ⟨W.heap.size, j, none⟩ = false) ∧ w'.cell? ⟨W.heap.size + 1, 0, none⟩ = some (.int .i64 bx) ∧ w'.cell? ⟨W.heap.size + 1, 1, none⟩ = some (.int .i64 bY) ∧ (∀ j, w'.frozen? ⟨W.heap.size + 1, j, none⟩ = false) ∧ w'.cell? ⟨W.heap.size + 1 + 1, 0, none⟩ = some (.int .i64 cx) ∧ w'.cell? ⟨W.heap.size + 1 + 1, 1, none⟩ = some (.int .i64 cy) ∧ (∀ j, w'.frozen? ⟨W.heap.size + 1 + 1, j, none⟩ = false) := fun w' h => ⟨box_new (by simp) (More.un (More.un h)) 0, box_new (by simp) (More.un (More.un h)) 1, fun j => box_free (by simp) (More.un (More.un h)) j, box_new (by simp) (More.un h) 0, box_new (by simp) (More.un h) 1, fun j => box_free (by simp) (More.un h) j, box_new (by simp) h 0, box_new (by simp) h 1, fun j => box_free (by simp) h j⟩
  go_enter Try.func5, Try.ntmps5
  go_wp2_with fail
  go_region_held3 (fun w' => More (((W.alloc (.cells #[.int .i64 ax, .int .i64 ay] 25)).alloc (.cells #[.int .i64 bx, .int .i64 bY] 25)).alloc (.cells #[.int .i64 cx, .int .i64 cy] 25)) w') (first | exact More.refl _ | exact (Turns.more (by repeat (first | (with_reducible exact Turns.refl _ _) | (with_reducible apply Turns.drew) | (with_reducible apply Turns.alloc) | (with_reducible refine Turns.via (by assumption) ?_))))) (first | (go_at_call 21; refine (laws_toVec _ _ _).mono ?_; rintro e w1 ⟨rfl, hb1⟩) | (go_at_call 20; refine (spec_Turn _ _ _ _ _ _ _).mono ?_; rintro e w1 ⟨rfl, hb1⟩) | (go_at_call 22; refine (impl_Turn _ _ _ _ _ _ _ IA.out IB.out IC.out).mono ?_; rintro e w1 ⟨rfl, hb1⟩))
  go_wp2_with fail
  go_region_held3 (fun w' => More (((W.alloc (.cells #[.int .i64 ax, .int .i64 ay] 25)).alloc (.cells #[.int .i64 bx, .int .i64 bY] 25)).alloc (.cells #[.int .i64 cx, .int .i64 cy] 25)) w') (first | exact More.refl _ | exact (Turns.more (by repeat (first | (with_reducible exact Turns.refl _ _) | (with_reducible apply Turns.drew) | (with_reducible apply Turns.alloc) | (with_reducible refine Turns.via (by assumption) ?_))))) (first | (go_at_call 21; refine (laws_toVec _ _ _).mono ?_; rintro e w1 ⟨rfl, hb1⟩) | (go_at_call 20; refine (spec_Turn _ _ _ _ _ _ _).mono ?_; rintro e w1 ⟨rfl, hb1⟩) | (go_at_call 22; refine (impl_Turn _ _ _ _ _ _ _ IA.out IB.out IC.out).mono ?_; rintro e w1 ⟨rfl, hb1⟩))
  go_wp2_with fail
  go_ret
  exact ⟨rfl, (Turns.more (by repeat (first | (with_reducible exact Turns.refl _ _) | (with_reducible apply Turns.drew) | (with_reducible apply Turns.alloc) | (with_reducible refine Turns.via (by assumption) ?_))))⟩
end Go.Proofs.Ytekjjnmcccfckaa
