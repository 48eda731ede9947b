/- Fractions: the program's differences, quotients, signs. -/
import Derived.Test.YtnndjbomfcacfaaRat
import Derived.Test.YtnndjbomfcacfaaGInt
namespace Go.Proofs.Ytnndjbomfcacfaa
open Go.RowKit
theorem sgn_flip (b : Bool) (m : Nat) : sgn (!b) m = -(sgn b m) := by cases b <;> simp [sgn]
theorem RatAt.neg {w : World} {f : Fr} {u v : Value} (h : RatAt w f u v) : RatAt w (frNeg f) u v := ⟨by show tInts.at w [u] (limbs (-f.1).natAbs); rw [Int.natAbs_neg]; exact h.1, h.2⟩
theorem div_sign {x y : Int} {t : Bool} {d : Nat} (ht : decide (y < 0) = t) :
    decide (sgn (decide (x * (d : Int) < 0) != t) (x * (d : Int)).natAbs < 0) = decide (sgn (decide (x < 0) != decide (y < 0)) (x.natAbs * d) < 0) := by
  rw [Int.natAbs_mul, Int.natAbs_natCast, ht]
  by_cases h0 : x.natAbs * d = 0
  · rw [h0]
    simp [sgn]
  · have hd : 0 < d := Nat.pos_of_ne_zero (fun e => h0 (by rw [e, Nat.mul_zero]))
    have hx : decide (x * (d : Int) < 0) = decide (x < 0) := by
      have hd' : (0 : Int) < (d : Int) := by omega
      by_cases h : x < 0
      · rw [decide_eq_true h, decide_eq_true (Int.mul_neg_of_neg_of_pos h hd')]
      · rw [decide_eq_false h, decide_eq_false (by have := Int.mul_nonneg (Int.not_lt.1 h) (Int.le_of_lt hd'); omega)]
    rw [hx]
end Go.Proofs.Ytnndjbomfcacfaa
