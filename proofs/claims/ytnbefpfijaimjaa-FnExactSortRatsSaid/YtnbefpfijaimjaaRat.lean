/- Fractions: the program's sums, products, quotients, comparing. -/
import Derived.Test.YtnbefpfijaimjaaRmk
import Derived.Test.YtnbefpfijaimjaaBx
namespace Go.Proofs.Ytnbefpfijaimjaa
open Go.RowKit
theorem sgn_of {z : Int} {s : Bool} (h : decide (z < 0) = s) : sgn s z.natAbs = z := by rw [← h, sgn_self]
theorem nat_pos (d : Nat) : decide ((d : Int) < 0) = false := by simp
theorem impl_bigMulZ (x y : Int) (s s' : Bool) (v v' : Value) (w : World) (hs : decide (x < 0) = s) (hs' : decide (y < 0) = s') (hv : tInts.at w [v] (limbs x.natAbs)) (hv' : tInts.at w [v'] (limbs y.natAbs)) (hl : (limbs x.natAbs).length ≤ 1000) (hm : (limbs y.natAbs).length ≤ 1000) :
    Calls Try.prog 57 #[.agg #[.bool s, v], .agg #[.bool s', v']] w fun e w' => ∃ u, e = .returned (.agg #[.bool (decide (x * y < 0)), u]) ∧ More w w' ∧ tInts.at w' [u] (limbs (x * y).natAbs) := by
  have h := impl_bigMul s s' v v' x.natAbs y.natAbs w hv hv' hl hm
  rw [sgn_of hs, sgn_of hs', ← Int.natAbs_mul] at h
  exact h
theorem sgn_nz {z : Int} {s : Bool} (h : decide (z < 0) = s) : s = true → z.natAbs ≠ 0 := by
  rintro rfl
  have := of_decide_eq_true h
  omega
theorem impl_bigCmpZ (x y : Int) (s s' : Bool) (v v' : Value) (w : World) (hs : decide (x < 0) = s) (hs' : decide (y < 0) = s') (hv : tInts.at w [v] (limbs x.natAbs)) (hv' : tInts.at w [v'] (limbs y.natAbs)) (hl : (limbs x.natAbs).length ≤ 1000) (hm : (limbs y.natAbs).length ≤ 1000) :
    Calls Try.prog 56 #[.agg #[.bool s, v], .agg #[.bool s', v']] w fun e w' => e = .returned (.int .i64 (cmpI x y)) ∧ More w w' := by
  have h := impl_bigCmp s s' v v' x.natAbs y.natAbs w hv hv' (sgn_nz hs) (sgn_nz hs') hl hm
  rw [sgn_of hs, sgn_of hs'] at h
  exact h
theorem len_mulZ {x y : Int} {a b : Nat} (hx : (limbs x.natAbs).length ≤ a) (hy : (limbs y.natAbs).length ≤ b) : (limbs (x * y).natAbs).length ≤ a + b := by
  rw [Int.natAbs_mul]
  have := limbs_len_mul x.natAbs y.natAbs
  omega
theorem len_mulN {x y a b : Nat} (hx : (limbs x).length ≤ a) (hy : (limbs y).length ≤ b) : (limbs (x * y)).length ≤ a + b := by
  have := limbs_len_mul x y
  omega
theorem len_addZ {x y : Int} {a : Nat} (hx : (limbs x.natAbs).length ≤ a) (hy : (limbs y.natAbs).length ≤ a) : (limbs (x + y).natAbs).length ≤ a + 1 := by
  have h1 := limbs_len_mono (Int.natAbs_add_le x y)
  have h2 := limbs_len_add x.natAbs y.natAbs
  omega
theorem len_natZ {d a : Nat} (h : (limbs d).length ≤ a) : (limbs ((d : Int)).natAbs).length ≤ a := by simpa using h
theorem at_natZ {w : World} {v : Value} {d : Nat} (h : tInts.at w [v] (limbs d)) : tInts.at w [v] (limbs ((d : Int)).natAbs) := by simpa using h
end Go.Proofs.Ytnbefpfijaimjaa
