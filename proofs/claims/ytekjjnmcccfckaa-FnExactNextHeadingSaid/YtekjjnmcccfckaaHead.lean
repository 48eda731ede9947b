/- FnExactNextHeading returns true, for all pairs of integers: both functions return the same number. -/
import Derived.Test.YtekjjnmcccfckaaVec
namespace Go.Proofs.Ytekjjnmcccfckaa
open Go.RowKit
def nextH (a t : Int) : Int := if 0 ≤ a ∧ a ≤ 3 ∧ (t = 1 ∨ t = -1) then (a + t + 4) % 4 else -1

set_option maxHeartbeats 400000 in
theorem spec_NextHeading (a t : Int) (w : World) : Calls Try.prog 15 #[.int .i64 a, .int .i64 t] w fun e w' => e = .returned (.int .i64 (nextH a t)) ∧ More w w' := by
  by_cases h0 : 0 ≤ a ∧ a ≤ 3
  · obtain ⟨h0, h1⟩ := h0
    by_cases t1 : t = 1
    · subst t1
      go_enter Try.func15, Try.ntmps15
      go_wp2
      go_ret
      exact ⟨ret_int (by unfold nextH; omega), More.refl _⟩
    · have t1' : (t != 1) = true := by simpa using t1
      by_cases t2 : t = -1
      · subst t2
        go_enter Try.func15, Try.ntmps15
        go_wp2
        go_ret
        exact ⟨ret_int (by unfold nextH; omega), More.refl _⟩
      · have t2' : (t != -1) = true := by simpa using t2
        go_enter Try.func15, Try.ntmps15
        go_wp2
        go_ret
        exact ⟨ret_int (by unfold nextH; omega), More.refl _⟩
  · go_enter Try.func15, Try.ntmps15
    go_wp2
    all_goals (go_ret; exact ⟨ret_int (by unfold nextH; omega), More.refl _⟩)

set_option maxHeartbeats 400000 in
theorem impl_NextHeading (a t : Int) (w : World) : Calls Try.prog 16 #[.int .i64 a, .int .i64 t] w fun e w' => e = .returned (.int .i64 (nextH a t)) ∧ More w w' := by
  by_cases h0 : 0 ≤ a ∧ a ≤ 3
  · obtain ⟨h0, h1⟩ := h0
    by_cases t1 : t = 1
    · subst t1
      go_enter Try.func16, Try.ntmps16
      go_wp2
      go_ret
      exact ⟨ret_int (by unfold nextH; omega), More.refl _⟩
    · have t1' : (t != 1) = true := by simpa using t1
      by_cases t2 : t = -1
      · subst t2
        go_enter Try.func16, Try.ntmps16
        go_wp2
        go_ret
        exact ⟨ret_int (by unfold nextH; omega), More.refl _⟩
      · have t2' : (t != -1) = true := by simpa using t2
        go_enter Try.func16, Try.ntmps16
        go_wp2
        go_ret
        exact ⟨ret_int (by unfold nextH; omega), More.refl _⟩
  · go_enter Try.func16, Try.ntmps16
    go_wp2
    all_goals (go_ret; exact ⟨ret_int (by unfold nextH; omega), More.refl _⟩)

set_option maxHeartbeats 400000 in
theorem law_NextHeading {W : World} (a : Int) (_ha : In64 a) (t : Int) (_ht : In64 t) : Calls Try.prog 3 #[.int .i64 a, .int .i64 t] W fun e w' => e = .returned (.bool true) ∧ More W w' := by
  go_enter Try.func3, Try.ntmps3
  go_wp2_with (first | (go_at_call 15; refine (spec_NextHeading _ _ _).mono ?_; rintro e w1 ⟨rfl, hb1⟩) | (go_at_call 16; refine (impl_NextHeading _ _ _).mono ?_; rintro e w2 ⟨rfl, hb2⟩))
  go_ret
  exact ⟨rfl, hb1.trans hb2⟩
end Go.Proofs.Ytekjjnmcccfckaa
