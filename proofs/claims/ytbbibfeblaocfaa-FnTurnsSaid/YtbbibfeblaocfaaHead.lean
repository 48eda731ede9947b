/- FnExactNextHeading returns true, for all pairs of integers: both functions return the same number. -/
import Derived.Test.YtbbibfeblaocfaaGVec
namespace Go.Proofs.Ytbbibfeblaocfaa
open Go.RowKit
def nextH (a t : Int) : Int := if 0 ≤ a ∧ a ≤ 3 ∧ (t = 1 ∨ t = -1) then (a + t + 4) % 4 else -1

set_option maxHeartbeats 400000 in
theorem impl_NextHeading (a t : Int) (w : World) : Calls Try.prog 12 #[.int .i64 a, .int .i64 t] w fun e w' => e = .returned (.int .i64 (nextH a t)) ∧ More w w' := by
  by_cases h0 : 0 ≤ a ∧ a ≤ 3
  · obtain ⟨h0, h1⟩ := h0
    by_cases t1 : t = 1
    · subst t1
      go_enter Try.func12, Try.ntmps12
      go_wp2
      go_ret
      exact ⟨ret_int (by unfold nextH; omega), More.refl _⟩
    · have t1' : (t != 1) = true := by simpa using t1
      by_cases t2 : t = -1
      · subst t2
        go_enter Try.func12, Try.ntmps12
        go_wp2
        go_ret
        exact ⟨ret_int (by unfold nextH; omega), More.refl _⟩
      · have t2' : (t != -1) = true := by simpa using t2
        go_enter Try.func12, Try.ntmps12
        go_wp2
        go_ret
        exact ⟨ret_int (by unfold nextH; omega), More.refl _⟩
  · go_enter Try.func12, Try.ntmps12
    go_wp2
    all_goals (go_ret; exact ⟨ret_int (by unfold nextH; omega), More.refl _⟩)

end Go.Proofs.Ytbbibfeblaocfaa
