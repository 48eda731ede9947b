/- Fractions: the reference's quotient. -/
import Derived.Test.YtiapendgjapgmaaThn
import Derived.Test.YtiapendgjapgmaaGSra
namespace Go.Proofs.Ytiapendgjapgmaa
open Go.RowKit
theorem frDiv_l {f g : Fr} (h : f = (0, 0)) : frDiv f g = (0, 0) := by unfold frDiv; rw [if_pos (.inl (by rw [h]))]
theorem frDiv_r {f g : Fr} (h : g = (0, 0)) : frDiv f g = (0, 0) := by unfold frDiv; rw [if_pos (.inr (.inl (by rw [h])))]
theorem frDiv_frL {f g : Fr} {b c : Bool} (hf : f.2 ≠ 0) (hg : g.2 ≠ 0) (hb : decide (f.1 < 0) = b) (hc : decide (g.1 < 0) = c) : frDiv f g = frL (!(b == c)) (f.1.natAbs * g.2) (f.2 * g.1.natAbs) := by
  subst hb
  subst hc
  unfold frDiv frL
  by_cases h : g.1 = 0
  · rw [if_pos (.inr (.inr h)), if_pos (by rw [h]; simp)]
  · rw [if_neg (fun k => k.elim hf (fun k => k.elim hg h)), if_neg (fun k => by
      rcases Nat.mul_eq_zero.1 k with k | k
      · exact hf k
      · exact h (Int.natAbs_eq_zero.1 k))]
    rfl
end Go.Proofs.Ytiapendgjapgmaa
