/- TurnsBetween: the reference's. -/
import Derived.Test.YtekjjnmcccfckaaIntS
namespace Go.Proofs.Ytekjjnmcccfckaa
open Go.RowKit
def tbL (r : Int) : List Int := if r = 1 then [1] else if r = 2 then [1, 1] else if r = 3 then [-1] else []
def tbF (g h : Int) : List Int := if inR g 0 3 && inR h 0 3 then tbL ((h + 4 - g) % 4) else []
set_option maxHeartbeats 1600000 in
theorem spec_TurnsBetween (g h : Int) (w : World) : Calls Try.prog 26 #[.int .i64 g, .int .i64 h] w fun e w' => ∃ v', e = .returned v' ∧ More w w' ∧ tInts.fresh w.heap.size w' [v'] (tbF g h) := by
  rcases Bool.eq_false_or_eq_true (inR g 0 3) with a | a
  · rcases Bool.eq_false_or_eq_true (inR h 0 3) with b | b
    · obtain ⟨a0, a1⟩ := inR_iff.1 a
      obtain ⟨b0, b1⟩ := inR_iff.1 b
      have gg : g = 0 ∨ g = 1 ∨ g = 2 ∨ g = 3 := by omega
      have hh : h = 0 ∨ h = 1 ∨ h = 2 ∨ h = 3 := by omega
      rcases gg with rfl | rfl | rfl | rfl <;> rcases hh with rfl | rfl | rfl | rfl <;>
      · go_enter Try.func26, Try.ntmps26
        go_wp2_with (go_at_call 50; refine (spec_l01In _ _ _ _).mono ?_; rintro e w1 ⟨rfl, hb1⟩)
        go_ret
        exact ⟨_, rfl, (Turns.more (by repeat (first | (with_reducible exact Turns.refl _ _) | (with_reducible apply Turns.drew) | (with_reducible apply Turns.drewN) | (with_reducible apply Turns.alloc) | (with_reducible refine Turns.via (by assumption) ?_)))), Ty.fresh_mono (lit_fresh fInt rfl (by simp [tbF, tbL, inR, fInt]) (by simp [tbF, tbL, inR]) (by decide) (fun x hx => In64.small (by revert x; decide))) (More.size (Turns.more (by repeat (first | (with_reducible exact Turns.refl _ _) | (with_reducible apply Turns.drew) | (with_reducible apply Turns.drewN) | (with_reducible apply Turns.alloc) | (with_reducible refine Turns.via (by assumption) ?_)))))⟩
    · go_enter Try.func26, Try.ntmps26
      go_wp2_with (go_at_call 50; refine (spec_l01In _ _ _ _).mono ?_; rintro e w1 ⟨rfl, hb1⟩)
      go_ret
      exact ⟨_, rfl, (Turns.more (by repeat (first | (with_reducible exact Turns.refl _ _) | (with_reducible apply Turns.drew) | (with_reducible apply Turns.drewN) | (with_reducible apply Turns.alloc) | (with_reducible refine Turns.via (by assumption) ?_)))), by rw [tbF, a, b]; exact nil_fresh⟩
  · go_enter Try.func26, Try.ntmps26
    go_wp2_with (go_at_call 50; refine (spec_l01In _ _ _ _).mono ?_; rintro e w1 ⟨rfl, hb1⟩)
    go_ret
    exact ⟨_, rfl, (Turns.more (by repeat (first | (with_reducible exact Turns.refl _ _) | (with_reducible apply Turns.drew) | (with_reducible apply Turns.drewN) | (with_reducible apply Turns.alloc) | (with_reducible refine Turns.via (by assumption) ?_)))), by rw [tbF, a]; exact nil_fresh⟩
end Go.Proofs.Ytekjjnmcccfckaa
