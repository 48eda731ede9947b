/- Comparing fractions: the program's and the reference's. -/
import Derived.Test.YtnndjbomfcacfaaRat
import Derived.Test.YtnndjbomfcacfaaOk
namespace Go.Proofs.Ytnndjbomfcacfaa
open Go.RowKit
open Classical in
/-- The fraction that a value is; nothing where it is none. -/
noncomputable def frOf (x : QR) : Fr := if h : ∃ f, Good f ∧ x = encR f then Classical.choose h else (0, 0)
theorem frOf_good {f : Fr} (h : Good f) : frOf (encR f) = f := by
  have he : ∃ g, Good g ∧ encR f = encR g := ⟨f, h, rfl⟩
  unfold frOf
  rw [dif_pos he]
  exact (encR_inj (Classical.choose_spec he).2).symm
theorem ratOk_zero : ratOkB (encR (0, 0)) = false := by
  refine Bool.eq_false_iff.2 (fun h => ?_)
  exact (ratOk_parts h).2.2.1 (by show (limbs 0).length = 0; rw [limbs_zero]; rfl)
theorem frOf_bad {x : QR} (h : ratOkB x = false) : frOf x = (0, 0) := by
  unfold frOf
  rw [dif_neg (fun k => by rw [ratOk_iff.2 k] at h; cases h)]
theorem frOf_vd (x : QR) : Vd (frOf x) := by
  by_cases h : ∃ f, Good f ∧ x = encR f
  · unfold frOf
    rw [dif_pos h]
    exact .inr (Classical.choose_spec h).1
  · unfold frOf
    rw [dif_neg h]
    exact .inl rfl
theorem frOf_enc {f : Fr} (h : Vd f) : frOf (encR f) = f := by
  rcases h with rfl | h
  · exact frOf_bad ratOk_zero
  · exact frOf_good h
theorem enc_frOf {x : QR} (h : ratOkB x = true) : encR (frOf x) = x := by
  obtain ⟨f, h1, rfl⟩ := ratOk_fr h
  rw [frOf_good h1]
theorem ratOk_frOf (x : QR) : ratOkB x = decide ((frOf x).2 ≠ 0) := by
  rcases Bool.eq_false_or_eq_true (ratOkB x) with h | h
  · obtain ⟨f, h1, rfl⟩ := ratOk_fr h
    rw [h, frOf_good h1, decide_eq_true h1.1]
  · rw [h, frOf_bad h]
    rfl
theorem frOf_at {w : World} {b : Bool} {u v : Value} {x : QR} (h : tRat.at w [.bool b, u, v] x) (hx : ratOkB x = true) : decide ((frOf x).1 < 0) = b ∧ RatAt w (frOf x) u v := RatAt.of (by rw [enc_frOf hx]; exact h)
theorem sgn_mulN {z : Int} {s : Bool} (h : decide (z < 0) = s) (d : Nat) : sgn s (z * (d : Int)).natAbs = z * (d : Int) := by
  rw [Int.natAbs_mul, Int.natAbs_natCast, ← h]
  conv => rhs; rw [← sgn_self z]
  unfold sgn
  split <;> simp [Int.neg_mul]
theorem at_mulZ {w : World} {v : Value} {z : Int} {d : Nat} (h : tInts.at w [v] (limbs (z.natAbs * d))) : tInts.at w [v] (limbs (z * (d : Int)).natAbs) := by rw [Int.natAbs_mul, Int.natAbs_natCast]; exact h
end Go.Proofs.Ytnndjbomfcacfaa
