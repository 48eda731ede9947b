/- Quotients of small fractions: plain facts. -/
import Derived.Test.YtiapendgjapgmaaGSra
namespace Go.Proofs.Ytiapendgjapgmaa
theorem sm_small {n : Nat} (h : n < 1000000000000) : sm n = true := by
  refine sm_iff.2 (limbs_len_le.2 ?_)
  have h2 := bp_mono (show 3 ≤ 24 by decide)
  have h3 : bp 3 = 1000000000000000000000000000 := by decide
  omega
theorem frMk_scale {s : Bool} {m d k : Nat} (hk : 0 < k) : frMk (sgn s (m * k)) (d * k) = frMk (sgn s m) d := by
  rw [frMk_sgn0, frMk_sgn0, Nat.gcd_mul_right, Nat.mul_div_mul_right _ _ hk, Nat.mul_div_mul_right _ _ hk]
theorem frDiv_frQ {a dy dx : Int} (hy : dy ≠ 0) (hx : 0 < dx) (ly : dy.natAbs < 1000000000000) (lx : dx.natAbs < 1000000000000) : frDiv (frInt a) (frQ dy dx) = frQ (a * dx) dy := by
  have hg : 0 < Nat.gcd dy.natAbs dx.natAbs := Nat.gcd_pos_of_pos_left _ (by omega)
  have hD : dy.natAbs / Nat.gcd dy.natAbs dx.natAbs ≠ 0 := by
    have h1 := Nat.le_of_dvd (by omega) (Nat.gcd_dvd_left dy.natAbs dx.natAbs)
    have := Nat.div_pos h1 hg
    omega
  have hX : dx.natAbs / Nat.gcd dy.natAbs dx.natAbs ≠ 0 := by
    have h1 := Nat.le_of_dvd (by omega) (Nat.gcd_dvd_right dy.natAbs dx.natAbs)
    have := Nat.div_pos h1 hg
    omega
  have d1 : decide (dx < 0) = false := decide_eq_false (by omega)
  have e1 : frQ dy dx = (sgn (decide (dy < 0) != false) (dy.natAbs / Nat.gcd dy.natAbs dx.natAbs), dx.natAbs / Nat.gcd dy.natAbs dx.natAbs) := by
    unfold frQ frL
    rw [if_neg (by omega), frMk_sgn0, sm_small (Nat.lt_of_le_of_lt (Nat.div_le_self _ _) ly), sm_small (Nat.lt_of_le_of_lt (Nat.div_le_self _ _) lx), d1]
    rfl
  have e2 : decide (sgn (decide (dy < 0) != false) (dy.natAbs / Nat.gcd dy.natAbs dx.natAbs) < 0) = decide (dy < 0) := by rw [sgn_neg]; simp [hD]
  rw [e1]
  unfold frDiv
  rw [if_neg (by
    rintro (h | h | h)
    · exact absurd h Nat.one_ne_zero
    · exact hX h
    · have h2 := congrArg Int.natAbs h
      rw [natAbs_sgn] at h2
      exact hD (by simpa using h2))]
  show frMk (sgn (decide (a < 0) != decide (sgn (decide (dy < 0) != false) (dy.natAbs / Nat.gcd dy.natAbs dx.natAbs) < 0)) (a.natAbs * (dx.natAbs / Nat.gcd dy.natAbs dx.natAbs))) (1 * (sgn (decide (dy < 0) != false) (dy.natAbs / Nat.gcd dy.natAbs dx.natAbs)).natAbs) = frQ (a * dx) dy
  rw [e2, natAbs_sgn, Nat.one_mul, ← frMk_scale hg, Nat.mul_assoc, Nat.div_mul_cancel (Nat.gcd_dvd_right _ _), Nat.div_mul_cancel (Nat.gcd_dvd_left _ _)]
  unfold frQ frL
  rw [if_neg (by omega), Int.natAbs_mul]
  have e3 : decide (a * dx < 0) = decide (a < 0) := by
    rw [decide_eq_decide]
    constructor
    · intro h
      rcases Int.lt_or_le a 0 with k | k
      · exact k
      · have := Int.mul_nonneg k (Int.le_of_lt hx); omega
    · intro h
      exact Int.mul_neg_of_neg_of_pos h hx
  rw [e3]
  rfl
theorem frCmp_sub0 {f g : Fr} (h : frCmp f g = 0) : (frSub f g).2 = 0 ∨ (frSub f g).1 = 0 := by
  unfold frCmp at h
  unfold frSub frAdd frNeg
  dsimp only
  split at h
  · rename_i k
    left
    rw [if_pos k]
  · rename_i k
    rw [if_neg k]
    right
    have e : f.1 * (g.2 : Int) = g.1 * (f.2 : Int) := by
      unfold cmpI at h
      by_cases a : f.1 * (g.2 : Int) < g.1 * (f.2 : Int)
      · simp [a] at h
      · by_cases b : g.1 * (f.2 : Int) < f.1 * (g.2 : Int)
        · simp [a, b] at h
        · omega
    show (frMk (f.1 * (g.2 : Int) + -g.1 * (f.2 : Int)) (f.2 * g.2)).1 = 0
    rw [e, Int.neg_mul, Int.add_right_neg]
    unfold frMk
    split
    · simp [sgn]
    · rfl
theorem frDiv_sub0 {x f g : Fr} (h : frCmp f g = 0) : frDiv x (frSub f g) = (0, 0) := by
  unfold frDiv
  rw [if_pos (.inr (frCmp_sub0 h))]
end Go.Proofs.Ytiapendgjapgmaa
