/- Contracts of Turn: the reference's and the program's compute the same number of three vectors. -/
import Derived.Test.YtnndjbomfcacfaaGVec
import Derived.Deep.RegionHeld3
namespace Go.Proofs.Ytnndjbomfcacfaa
open Go.RowKit
/-- The Turn of three vectors. -/
def tn (a b c : QV) : Int := (b.1 - a.1) * (c.2 - a.2) - (b.2 - a.2) * (c.1 - a.1)
def turnF (a b c : QV) : Int := if [a, b, c].all isV then tn a b c else 0
theorem mul_bd {x y : Int} (A B : Nat) (h1 : -(A : Int) ≤ x ∧ x ≤ A) (h2 : -(B : Int) ≤ y ∧ y ≤ B) : -((A * B : Nat) : Int) ≤ x * y ∧ x * y ≤ ((A * B : Nat) : Int) := by
  have : (x * y).natAbs ≤ A * B := by
    rw [Int.natAbs_mul]
    exact Nat.mul_le_mul (by omega) (by omega)
  omega
theorem tn_bound {a b c : QV} (ha : isV a = true) (hb : isV b = true) (hc : isV c = true) : -8000000 ≤ tn a b c ∧ tn a b c ≤ 8000000 := by
  rw [isV_iff] at ha hb hc
  have h1 := mul_bd (x := b.1 - a.1) (y := c.2 - a.2) 2000 2000 (by omega) (by omega)
  have h2 := mul_bd (x := b.2 - a.2) (y := c.1 - a.1) 2000 2000 (by omega) (by omega)
  unfold tn
  omega

set_option maxHeartbeats 400000 in
theorem impl_turn (a1 a2 b1 b2 c1 c2 : Int) (w : World) (ha : isV (a1, a2) = true) (hb : isV (b1, b2) = true) (hc : isV (c1, c2) = true) :
    Calls Try.prog 78 #[.agg #[.int .i64 a1, .int .i64 a2], .agg #[.int .i64 b1, .int .i64 b2], .agg #[.int .i64 c1, .int .i64 c2]] w fun e w' => e = .returned (.int .i64 (tn (a1, a2) (b1, b2) (c1, c2))) ∧ More w w' := by
  rw [isV_iff] at ha hb hc
  obtain ⟨⟨h1, h2⟩, h3, h4⟩ := ha
  obtain ⟨⟨h5, h6⟩, h7, h8⟩ := hb
  obtain ⟨⟨h9, h10⟩, h11, h12⟩ := hc
  simp only at h1 h2 h3 h4 h5 h6 h7 h8 h9 h10 h11 h12
  obtain ⟨p1, p2⟩ := mul_bd (x := b1 - a1) (y := c2 - a2) 2000 2000 (by omega) (by omega)
  obtain ⟨p3, p4⟩ := mul_bd (x := b2 - a2) (y := c1 - a1) 2000 2000 (by omega) (by omega)
  go_enter Try.func78, Try.ntmps78
  go_wp2
  go_ret
  exact ⟨rfl, mC⟩
set_option maxHeartbeats 1600000 in
theorem spec_Turn (a1 a2 b1 b2 c1 c2 : Int) (w : World) :
    Calls Try.prog 75 #[.agg #[.int .i64 a1, .int .i64 a2], .agg #[.int .i64 b1, .int .i64 b2], .agg #[.int .i64 c1, .int .i64 c2]] w fun e w' => e = .returned (.int .i64 (turnF (a1, a2) (b1, b2) (c1, c2))) ∧ More w w' := by
  rcases Bool.eq_false_or_eq_true (isV (a1, a2)) with ha | ha
  · rcases Bool.eq_false_or_eq_true (isV (b1, b2)) with hb | hb
    · rcases Bool.eq_false_or_eq_true (isV (c1, c2)) with hc | hc
      · have H : Hid ([(a1, a2), (b1, b2), (c1, c2)].all isV = true) := Lib.hid (by simp [ha, hb, hc])
        have ha' := ha; have hb' := hb; have hc' := hc
        rw [isV_iff] at ha' hb' hc'
        obtain ⟨⟨h1, h2⟩, h3, h4⟩ := ha'
        obtain ⟨⟨h5, h6⟩, h7, h8⟩ := hb'
        obtain ⟨⟨h9, h10⟩, h11, h12⟩ := hc'
        simp only at h1 h2 h3 h4 h5 h6 h7 h8 h9 h10 h11 h12
        obtain ⟨p1, p2⟩ := mul_bd (x := b1 - a1) (y := c2 - a2) 2000 2000 (by omega) (by omega)
        obtain ⟨p3, p4⟩ := mul_bd (x := b2 - a2) (y := c1 - a1) 2000 2000 (by omega) (by omega)
        have HX : More (((w.alloc (.cells #[.int .i64 a1, .int .i64 a2] 30)).alloc (.cells #[.int .i64 b1, .int .i64 b2] 30)).alloc (.cells #[.int .i64 c1, .int .i64 c2] 30)) (((w.alloc (.cells #[.int .i64 a1, .int .i64 a2] 30)).alloc (.cells #[.int .i64 b1, .int .i64 b2] 30)).alloc (.cells #[.int .i64 c1, .int .i64 c2] 30)) := More.refl _
        have HB : ∀ w', More (((w.alloc (.cells #[.int .i64 a1, .int .i64 a2] 30)).alloc (.cells #[.int .i64 b1, .int .i64 b2] 30)).alloc (.cells #[.int .i64 c1, .int .i64 c2] 30)) w' → w'.cell? ⟨w.heap.size, 0, none⟩ = some (.int .i64 a1) ∧ w'.cell? ⟨w.heap.size, 1, none⟩ = some (.int .i64 a2) ∧ (∀ j, w'.frozen? ⟨w.heap.size, j, none⟩ = false) ∧ w'.cell? ⟨w.heap.size + 1, 0, none⟩ = some (.int .i64 b1) ∧ w'.cell? ⟨w.heap.size + 1, 1, none⟩ = some (.int .i64 b2) ∧ (∀ j, w'.frozen? ⟨w.heap.size + 1, j, none⟩ = false) ∧ w'.cell? ⟨w.heap.size + 1 + 1, 0, none⟩ = some (.int .i64 c1) ∧ w'.cell? ⟨w.heap.size + 1 + 1, 1, none⟩ = some (.int .i64 c2) ∧ (∀ j, w'.frozen? ⟨w.heap.size + 1 + 1, j, none⟩ = false) := fun w' h => ⟨box_new (by simp) (More.un (More.un h)) 0, box_new (by simp) (More.un (More.un h)) 1, fun j => box_free (by simp) (More.un (More.un h)) j, box_new (by simp) (More.un h) 0, box_new (by simp) (More.un h) 1, fun j => box_free (by simp) (More.un h) j, box_new (by simp) h 0, box_new (by simp) h 1, fun j => box_free (by simp) h j⟩
        go_enter Try.func75, Try.ntmps75
        go_wp2_with (go_at_call 74; refine (spec_IsValidVec _ _ _).mono ?_; rintro e w1 ⟨rfl, hb1⟩; have HX : More (((w.alloc (.cells #[.int .i64 a1, .int .i64 a2] 30)).alloc (.cells #[.int .i64 b1, .int .i64 b2] 30)).alloc (.cells #[.int .i64 c1, .int .i64 c2] 30)) _ := More.trans (by assumption) hb1; have HBw := HB _ HX)
        go_ret
        exact ⟨ret_int (by rw [turnF, if_pos H.out]; rfl), mC⟩
      · have H : Hid ([(a1, a2), (b1, b2), (c1, c2)].all isV = false) := Lib.hid (by simp [ha, hb, hc])
        have HX : More (((w.alloc (.cells #[.int .i64 a1, .int .i64 a2] 30)).alloc (.cells #[.int .i64 b1, .int .i64 b2] 30)).alloc (.cells #[.int .i64 c1, .int .i64 c2] 30)) (((w.alloc (.cells #[.int .i64 a1, .int .i64 a2] 30)).alloc (.cells #[.int .i64 b1, .int .i64 b2] 30)).alloc (.cells #[.int .i64 c1, .int .i64 c2] 30)) := More.refl _
        have HB : ∀ w', More (((w.alloc (.cells #[.int .i64 a1, .int .i64 a2] 30)).alloc (.cells #[.int .i64 b1, .int .i64 b2] 30)).alloc (.cells #[.int .i64 c1, .int .i64 c2] 30)) w' → w'.cell? ⟨w.heap.size, 0, none⟩ = some (.int .i64 a1) ∧ w'.cell? ⟨w.heap.size, 1, none⟩ = some (.int .i64 a2) ∧ (∀ j, w'.frozen? ⟨w.heap.size, j, none⟩ = false) ∧ w'.cell? ⟨w.heap.size + 1, 0, none⟩ = some (.int .i64 b1) ∧ w'.cell? ⟨w.heap.size + 1, 1, none⟩ = some (.int .i64 b2) ∧ (∀ j, w'.frozen? ⟨w.heap.size + 1, j, none⟩ = false) ∧ w'.cell? ⟨w.heap.size + 1 + 1, 0, none⟩ = some (.int .i64 c1) ∧ w'.cell? ⟨w.heap.size + 1 + 1, 1, none⟩ = some (.int .i64 c2) ∧ (∀ j, w'.frozen? ⟨w.heap.size + 1 + 1, j, none⟩ = false) := fun w' h => ⟨box_new (by simp) (More.un (More.un h)) 0, box_new (by simp) (More.un (More.un h)) 1, fun j => box_free (by simp) (More.un (More.un h)) j, box_new (by simp) (More.un h) 0, box_new (by simp) (More.un h) 1, fun j => box_free (by simp) (More.un h) j, box_new (by simp) h 0, box_new (by simp) h 1, fun j => box_free (by simp) h j⟩
        go_enter Try.func75, Try.ntmps75
        go_wp2_with (go_at_call 74; refine (spec_IsValidVec _ _ _).mono ?_; rintro e w1 ⟨rfl, hb1⟩; have HX : More (((w.alloc (.cells #[.int .i64 a1, .int .i64 a2] 30)).alloc (.cells #[.int .i64 b1, .int .i64 b2] 30)).alloc (.cells #[.int .i64 c1, .int .i64 c2] 30)) _ := More.trans (by assumption) hb1; have HBw := HB _ HX)
        go_ret
        exact ⟨ret_int (by rw [turnF, H.out]; rfl), mC⟩
    · have H : Hid ([(a1, a2), (b1, b2), (c1, c2)].all isV = false) := Lib.hid (by simp [ha, hb])
      have HX : More (((w.alloc (.cells #[.int .i64 a1, .int .i64 a2] 30)).alloc (.cells #[.int .i64 b1, .int .i64 b2] 30)).alloc (.cells #[.int .i64 c1, .int .i64 c2] 30)) (((w.alloc (.cells #[.int .i64 a1, .int .i64 a2] 30)).alloc (.cells #[.int .i64 b1, .int .i64 b2] 30)).alloc (.cells #[.int .i64 c1, .int .i64 c2] 30)) := More.refl _
      have HB : ∀ w', More (((w.alloc (.cells #[.int .i64 a1, .int .i64 a2] 30)).alloc (.cells #[.int .i64 b1, .int .i64 b2] 30)).alloc (.cells #[.int .i64 c1, .int .i64 c2] 30)) w' → w'.cell? ⟨w.heap.size, 0, none⟩ = some (.int .i64 a1) ∧ w'.cell? ⟨w.heap.size, 1, none⟩ = some (.int .i64 a2) ∧ (∀ j, w'.frozen? ⟨w.heap.size, j, none⟩ = false) ∧ w'.cell? ⟨w.heap.size + 1, 0, none⟩ = some (.int .i64 b1) ∧ w'.cell? ⟨w.heap.size + 1, 1, none⟩ = some (.int .i64 b2) ∧ (∀ j, w'.frozen? ⟨w.heap.size + 1, j, none⟩ = false) ∧ w'.cell? ⟨w.heap.size + 1 + 1, 0, none⟩ = some (.int .i64 c1) ∧ w'.cell? ⟨w.heap.size + 1 + 1, 1, none⟩ = some (.int .i64 c2) ∧ (∀ j, w'.frozen? ⟨w.heap.size + 1 + 1, j, none⟩ = false) := fun w' h => ⟨box_new (by simp) (More.un (More.un h)) 0, box_new (by simp) (More.un (More.un h)) 1, fun j => box_free (by simp) (More.un (More.un h)) j, box_new (by simp) (More.un h) 0, box_new (by simp) (More.un h) 1, fun j => box_free (by simp) (More.un h) j, box_new (by simp) h 0, box_new (by simp) h 1, fun j => box_free (by simp) h j⟩
      go_enter Try.func75, Try.ntmps75
      go_wp2_with (go_at_call 74; refine (spec_IsValidVec _ _ _).mono ?_; rintro e w1 ⟨rfl, hb1⟩; have HX : More (((w.alloc (.cells #[.int .i64 a1, .int .i64 a2] 30)).alloc (.cells #[.int .i64 b1, .int .i64 b2] 30)).alloc (.cells #[.int .i64 c1, .int .i64 c2] 30)) _ := More.trans (by assumption) hb1; have HBw := HB _ HX)
      go_ret
      exact ⟨ret_int (by rw [turnF, H.out]; rfl), mC⟩
  · have H : Hid ([(a1, a2), (b1, b2), (c1, c2)].all isV = false) := Lib.hid (by simp [ha])
    have HX : More (((w.alloc (.cells #[.int .i64 a1, .int .i64 a2] 30)).alloc (.cells #[.int .i64 b1, .int .i64 b2] 30)).alloc (.cells #[.int .i64 c1, .int .i64 c2] 30)) (((w.alloc (.cells #[.int .i64 a1, .int .i64 a2] 30)).alloc (.cells #[.int .i64 b1, .int .i64 b2] 30)).alloc (.cells #[.int .i64 c1, .int .i64 c2] 30)) := More.refl _
    have HB : ∀ w', More (((w.alloc (.cells #[.int .i64 a1, .int .i64 a2] 30)).alloc (.cells #[.int .i64 b1, .int .i64 b2] 30)).alloc (.cells #[.int .i64 c1, .int .i64 c2] 30)) w' → w'.cell? ⟨w.heap.size, 0, none⟩ = some (.int .i64 a1) ∧ w'.cell? ⟨w.heap.size, 1, none⟩ = some (.int .i64 a2) ∧ (∀ j, w'.frozen? ⟨w.heap.size, j, none⟩ = false) ∧ w'.cell? ⟨w.heap.size + 1, 0, none⟩ = some (.int .i64 b1) ∧ w'.cell? ⟨w.heap.size + 1, 1, none⟩ = some (.int .i64 b2) ∧ (∀ j, w'.frozen? ⟨w.heap.size + 1, j, none⟩ = false) ∧ w'.cell? ⟨w.heap.size + 1 + 1, 0, none⟩ = some (.int .i64 c1) ∧ w'.cell? ⟨w.heap.size + 1 + 1, 1, none⟩ = some (.int .i64 c2) ∧ (∀ j, w'.frozen? ⟨w.heap.size + 1 + 1, j, none⟩ = false) := fun w' h => ⟨box_new (by simp) (More.un (More.un h)) 0, box_new (by simp) (More.un (More.un h)) 1, fun j => box_free (by simp) (More.un (More.un h)) j, box_new (by simp) (More.un h) 0, box_new (by simp) (More.un h) 1, fun j => box_free (by simp) (More.un h) j, box_new (by simp) h 0, box_new (by simp) h 1, fun j => box_free (by simp) h j⟩
    go_enter Try.func75, Try.ntmps75
    go_wp2_with (go_at_call 74; refine (spec_IsValidVec _ _ _).mono ?_; rintro e w1 ⟨rfl, hb1⟩; have HX : More (((w.alloc (.cells #[.int .i64 a1, .int .i64 a2] 30)).alloc (.cells #[.int .i64 b1, .int .i64 b2] 30)).alloc (.cells #[.int .i64 c1, .int .i64 c2] 30)) _ := More.trans (by assumption) hb1; have HBw := HB _ HX)
    go_ret
    exact ⟨ret_int (by rw [turnF, H.out]; rfl), mC⟩
end Go.Proofs.Ytnndjbomfcacfaa
