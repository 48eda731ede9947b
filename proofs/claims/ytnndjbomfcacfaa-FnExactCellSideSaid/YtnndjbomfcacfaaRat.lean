/- Fractions: the program's sums, products, quotients, comparing. -/
import Derived.Test.YtnndjbomfcacfaaRmk
import Derived.Test.YtnndjbomfcacfaaBx
namespace Go.Proofs.Ytnndjbomfcacfaa
open Go.RowKit
theorem sgn_of {z : Int} {s : Bool} (h : decide (z < 0) = s) : sgn s z.natAbs = z := by rw [← h, sgn_self]
theorem nat_pos (d : Nat) : decide ((d : Int) < 0) = false := by simp
theorem len_mulZ {x y : Int} {a b : Nat} (hx : (limbs x.natAbs).length ≤ a) (hy : (limbs y.natAbs).length ≤ b) : (limbs (x * y).natAbs).length ≤ a + b := by
  rw [Int.natAbs_mul]
  have := limbs_len_mul x.natAbs y.natAbs
  omega
theorem len_mulN {x y a b : Nat} (hx : (limbs x).length ≤ a) (hy : (limbs y).length ≤ b) : (limbs (x * y)).length ≤ a + b := by
  have := limbs_len_mul x y
  omega
theorem len_addZ {x y : Int} {a : Nat} (hx : (limbs x.natAbs).length ≤ a) (hy : (limbs y.natAbs).length ≤ a) : (limbs (x + y).natAbs).length ≤ a + 1 := by
  have h1 := limbs_len_mono (Int.natAbs_add_le x y)
  have h2 := limbs_len_add x.natAbs y.natAbs
  omega
theorem len_natZ {d a : Nat} (h : (limbs d).length ≤ a) : (limbs ((d : Int)).natAbs).length ≤ a := by simpa using h
theorem at_natZ {w : World} {v : Value} {d : Nat} (h : tInts.at w [v] (limbs d)) : tInts.at w [v] (limbs ((d : Int)).natAbs) := by simpa using h
end Go.Proofs.Ytnndjbomfcacfaa
