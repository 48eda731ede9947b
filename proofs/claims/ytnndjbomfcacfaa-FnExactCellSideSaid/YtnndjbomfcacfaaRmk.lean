/- Fractions in lowest terms: the program's making. -/
import Derived.Test.YtnndjbomfcacfaaRt
namespace Go.Proofs.Ytnndjbomfcacfaa
open Go.RowKit
theorem sgn_neg_iff {s : Bool} {m : Nat} (h : s = true → m ≠ 0) : decide (sgn s m < 0) = s := by
  rw [sgn_neg]
  cases s
  · rfl
  · simp [h rfl]
theorem frMk_sgn {s : Bool} {m d : Nat} (hs : s = true → m ≠ 0) : frMk (sgn s m) d = if sm (m / Nat.gcd m d) && sm (d / Nat.gcd m d) then (sgn s (m / Nat.gcd m d), d / Nat.gcd m d) else (0, 0) := by
  unfold frMk
  rw [natAbs_sgn, sgn_neg_iff hs]
theorem div_gcd_ne {m d : Nat} (h : m ≠ 0) : m / Nat.gcd m d ≠ 0 := by
  have h1 := Nat.le_of_dvd (Nat.pos_of_ne_zero h) (Nat.gcd_dvd_left m d)
  have h2 := Nat.gcd_pos_of_pos_left d (Nat.pos_of_ne_zero h)
  have := Nat.div_pos h1 h2
  omega
theorem RatFr.mk {B : Nat} {w : World} {x y : Value} {s : Bool} {M D : Nat} (hs : decide (sgn s M < 0) = s) (h : tRat.fresh B w [.bool s, x, y] ((s, limbs M), limbs D)) : RatFr B w (sgn s M, D) x y := by
  unfold RatFr encR encZ
  simp only [natAbs_sgn, hs]
  exact h
theorem sm_no {a b : Nat} (h : ¬ ((limbs a).length ≤ 24 ∧ (limbs b).length ≤ 24)) : (sm a && sm b) = false := by
  rw [Bool.eq_false_iff]
  intro k
  rw [Bool.and_eq_true, sm_iff, sm_iff] at k
  exact h k
theorem sm_yes {a b : Nat} (h : (limbs a).length ≤ 24 ∧ (limbs b).length ≤ 24) : (sm a && sm b) = true := by rw [Bool.and_eq_true, sm_iff, sm_iff]; exact h
end Go.Proofs.Ytnndjbomfcacfaa
