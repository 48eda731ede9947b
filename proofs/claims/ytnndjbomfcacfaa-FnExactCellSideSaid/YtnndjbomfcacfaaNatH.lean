/- Natural numbers as limbs: the reference's greatest common divisor. -/
import Derived.Test.YtnndjbomfcacfaaNatG
import Derived.Test.YtnndjbomfcacfaaClo
namespace Go.Proofs.Ytnndjbomfcacfaa
open Go.RowKit
theorem drop_step (l : List Int) (p : Nat) (hp : p < l.length) : val (l.drop p) = l.getD p 0 + 1000000000 * val (l.drop (p + 1)) := by
  rw [List.drop_eq_getElem_cons hp]
  show l[p] + 1000000000 * val _ = _
  rw [List.getD_eq_getElem?_getD, List.getElem?_eq_getElem hp]
  rfl
theorem drop_le (n p : Nat) : val ((limbs n).drop p) ≤ n ∧ 0 ≤ val ((limbs n).drop p) := by
  have h0 := val_nonneg ((limbs_isL n).drop p)
  refine ⟨?_, h0⟩
  by_cases hp : p ≤ (limbs n).length
  · have h1 := val_drop (limbs n) p hp
    have h2 := limbs_take_nonneg n p
    rw [limbs_val] at h1
    have h3 : val ((limbs n).drop p) ≤ bp p * val ((limbs n).drop p) := by
      have := Int.mul_le_mul_of_nonneg_right (show 1 ≤ bp p by have := bp_pos p; omega) h0
      omega
    omega
  · rw [List.drop_eq_nil_of_le (by omega)]
    simp [val]
theorem lit_max : limbs 9223372036854775807 = [854775807, 223372036, 9] := by
  refine (can_limbs (l := [854775807, 223372036, 9]) ?_ (by decide)).symm
  have h : IsL ([854775807, 223372036] ++ [9]) := IsL.mk (by decide) (IsL.mk (by decide) (IsL.mk (by decide) IsL.nil))
  exact (can_iff_last h).2 (by decide)
end Go.Proofs.Ytnndjbomfcacfaa
