/- Fractions by any terms: sums, products, quotients of fractions that are given as n/d, not in lowest terms. Plain facts; it speaks of no program. -/
import Derived.Test.YtnbefpfijaimjaaGreatDoorGNum
namespace Go.Proofs.YtnbefpfijaimjaaGreatDoor
theorem smK_mono {a b : Nat} (h : a ≤ b) (hb : sm b = true) : sm a = true := sm_iff.2 (Nat.le_trans (limbs_len_mono h) (sm_iff.1 hb))
theorem sgnK_scale (k : Nat) (hk : 0 < k) (n : Int) : decide ((k : Int) * n < 0) = decide (n < 0) := by
  apply decide_eq_decide.2
  constructor
  · intro h
    rcases Int.lt_or_le n 0 with h1 | h1
    · exact h1
    · have := Int.mul_nonneg (show (0 : Int) ≤ k by omega) h1
      omega
  · intro h
    exact Int.mul_neg_of_pos_of_neg (by omega) h
/-- The same fraction by greater terms. -/
theorem frK_scale (k : Nat) (hk : 0 < k) (n : Int) (d : Nat) : frMk ((k : Int) * n) (k * d) = frMk n d := by
  unfold frMk
  have h1 : ((k : Int) * n).natAbs = k * n.natAbs := by rw [Int.natAbs_mul]; rfl
  rw [h1, Nat.gcd_mul_left, Nat.mul_div_mul_left _ _ hk, Nat.mul_div_mul_left _ _ hk, sgnK_scale k hk]
/-- Fractions whose terms agree crosswise. -/
theorem frK_eq {a c : Int} {b d : Nat} (hb : b ≠ 0) (hd : d ≠ 0) (h : a * d = c * b) : frMk a b = frMk c d := by
  rw [← frK_scale d (Nat.pos_of_ne_zero hd) a b, ← frK_scale b (Nat.pos_of_ne_zero hb) c d, Int.mul_comm (d : Int) a, h, Int.mul_comm c (b : Int), Nat.mul_comm d b]
/-- What a fraction of small terms is. -/
theorem frK_split {n : Int} {d : Nat} (hn : sm n.natAbs = true) (hd : sm d = true) (h0 : d ≠ 0) : ∃ (g : Nat) (n' : Int) (d' : Nat), 0 < g ∧ n = (g : Int) * n' ∧ d = g * d' ∧ d' ≠ 0 ∧ frMk n d = (n', d') := by
  have hg : 0 < Nat.gcd n.natAbs d := Nat.gcd_pos_of_pos_right _ (Nat.pos_of_ne_zero h0)
  have h1 := Nat.mul_div_cancel' (Nat.gcd_dvd_left n.natAbs d)
  have h2 := Nat.mul_div_cancel' (Nat.gcd_dvd_right n.natAbs d)
  refine ⟨Nat.gcd n.natAbs d, sgn (decide (n < 0)) (n.natAbs / Nat.gcd n.natAbs d), d / Nat.gcd n.natAbs d, hg, ?_, h2.symm, ?_, ?_⟩
  · unfold sgn
    by_cases h : n < 0
    · simp only [h, decide_true, if_true]
      have : ((Nat.gcd n.natAbs d * (n.natAbs / Nat.gcd n.natAbs d) : Nat) : Int) = (n.natAbs : Int) := by rw [h1]
      rw [Int.natCast_mul] at this
      rw [Int.mul_neg, this]
      omega
    · simp only [h, decide_false]
      have : ((Nat.gcd n.natAbs d * (n.natAbs / Nat.gcd n.natAbs d) : Nat) : Int) = (n.natAbs : Int) := by rw [h1]
      rw [Int.natCast_mul] at this
      show n = _ * (if false = true then _ else _)
      rw [if_neg (by simp), this]
      omega
  · intro h3
    rw [h3, Nat.mul_zero] at h2
    exact h0 h2.symm
  · unfold frMk
    rw [if_pos]
    rw [Bool.and_eq_true]
    exact ⟨smK_mono (Nat.div_le_self _ _) hn, smK_mono (Nat.div_le_self _ _) hd⟩
theorem frK_den {n : Int} {d : Nat} (hn : sm n.natAbs = true) (hd : sm d = true) (h0 : d ≠ 0) : (frMk n d).2 ≠ 0 := by
  obtain ⟨g, n', d', hg, e1, e2, h3, e4⟩ := frK_split hn hd h0
  rw [e4]
  exact h3
theorem frK_add {a c : Int} {b d : Nat} (ha : sm a.natAbs = true) (hb : sm b = true) (hc : sm c.natAbs = true) (hd : sm d = true) (hb0 : b ≠ 0) (hd0 : d ≠ 0) :
    frAdd (frMk a b) (frMk c d) = frMk (a * d + c * b) (b * d) := by
  obtain ⟨g, a', b', hg, e1, e2, h3, e4⟩ := frK_split ha hb hb0
  obtain ⟨k, c', d', hk, f1, f2, k3, f4⟩ := frK_split hc hd hd0
  rw [e4, f4]
  unfold frAdd
  rw [if_neg (by simp; exact ⟨h3, k3⟩)]
  show frMk (a' * d' + c' * b') (b' * d') = _
  rw [← frK_scale (g * k) (Nat.mul_pos hg hk)]
  congr 1
  · rw [e1, f1, e2, f2]
    simp only [Int.natCast_mul]
    grind
  · rw [e2, f2]
    grind
theorem frK_mul {a c : Int} {b d : Nat} (ha : sm a.natAbs = true) (hb : sm b = true) (hc : sm c.natAbs = true) (hd : sm d = true) (hb0 : b ≠ 0) (hd0 : d ≠ 0) :
    frMul (frMk a b) (frMk c d) = frMk (a * c) (b * d) := by
  obtain ⟨g, a', b', hg, e1, e2, h3, e4⟩ := frK_split ha hb hb0
  obtain ⟨k, c', d', hk, f1, f2, k3, f4⟩ := frK_split hc hd hd0
  rw [e4, f4]
  unfold frMul
  rw [if_neg (by simp; exact ⟨h3, k3⟩)]
  show frMk (a' * c') (b' * d') = _
  rw [← frK_scale (g * k) (Nat.mul_pos hg hk)]
  congr 1
  · rw [e1, f1]
    simp only [Int.natCast_mul]
    grind
  · rw [e2, f2]
    grind
theorem frK_neg {a : Int} {b : Nat} : frNeg (frMk a b) = frMk (-a) b := by
  unfold frMk
  rw [Int.natAbs_neg]
  split
  · unfold frNeg sgn
    by_cases h0 : a = 0
    · subst h0; simp
    · by_cases h : a < 0
      · have e1 : decide (a < 0) = true := decide_eq_true h
        have e2 : decide (-a < 0) = false := decide_eq_false (by omega)
        rw [e1, e2]
        simp
      · have e1 : decide (a < 0) = false := decide_eq_false h
        have e2 : decide (-a < 0) = true := decide_eq_true (by omega)
        rw [e1, e2]
        simp
  · rfl
theorem frK_sub {a c : Int} {b d : Nat} (ha : sm a.natAbs = true) (hb : sm b = true) (hc : sm c.natAbs = true) (hd : sm d = true) (hb0 : b ≠ 0) (hd0 : d ≠ 0) :
    frSub (frMk a b) (frMk c d) = frMk (a * d - c * b) (b * d) := by
  unfold frSub
  rw [frK_neg, frK_add ha hb (by rw [Int.natAbs_neg]; exact hc) hd hb0 hd0]
  congr 1
  rw [Int.neg_mul]
  rfl
theorem frK_int {n : Int} (h : sm n.natAbs = true) : frMk n 1 = frInt n := by
  have h1 : sm 1 = true := by
    rw [sm_iff]
    exact Nat.le_trans (limbs_len_le (k := 1).2 (by decide)) (by decide)
  have := frMk_good (f := frInt n) ⟨show (1 : Nat) ≠ 0 by decide, by simp [frInt], h, h1⟩
  exact this
/-- The quotient, by a divisor that is not 0. -/
theorem frK_div {a c : Int} {b d : Nat} (ha : sm a.natAbs = true) (hb : sm b = true) (hc : sm c.natAbs = true) (hd : sm d = true) (hb0 : b ≠ 0) (hd0 : d ≠ 0) (hc0 : c ≠ 0) :
    frDiv (frMk a b) (frMk c d) = frMk (a * d * c.sign) (b * c.natAbs) := by
  obtain ⟨g, a', b', hg, e1, e2, h3, e4⟩ := frK_split ha hb hb0
  obtain ⟨k, c', d', hk, f1, f2, k3, f4⟩ := frK_split hc hd hd0
  have hc' : c' ≠ 0 := by
    rintro rfl
    rw [Int.mul_zero] at f1
    exact hc0 f1
  rw [e4, f4]
  unfold frDiv
  rw [if_neg (by simp; exact ⟨h3, k3, hc'⟩)]
  show frMk (sgn (decide (a' < 0) != decide (c' < 0)) (a'.natAbs * d')) (b' * c'.natAbs) = _
  have hs : sgn (decide (a' < 0) != decide (c' < 0)) (a'.natAbs * d') = a' * d' * c'.sign := by
    unfold sgn
    rcases Int.lt_or_gt_of_ne hc' with h | h
    · rw [Int.sign_eq_neg_one_of_neg h]
      by_cases h2 : a' < 0
      · have : (a'.natAbs : Int) = -a' := by omega
        simp [h, h2, this, Int.natCast_mul, Int.neg_mul]
      · have : (a'.natAbs : Int) = a' := by omega
        simp [h, h2, this, Int.natCast_mul]
    · rw [Int.sign_eq_one_of_pos h]
      have h9 : ¬ c' < 0 := by omega
      by_cases h2 : a' < 0
      · have : (a'.natAbs : Int) = -a' := by omega
        simp [h9, h2, this, Int.natCast_mul, Int.neg_mul]
      · have : (a'.natAbs : Int) = a' := by omega
        simp [h9, h2, this, Int.natCast_mul]
  have hsg : c.sign = c'.sign := by
    rw [f1, Int.sign_mul, Int.sign_eq_one_of_pos (show (0 : Int) < k by omega), Int.one_mul]
  rw [hs, ← frK_scale (g * k) (Nat.mul_pos hg hk)]
  congr 1
  · rw [hsg, e1, f2]
    simp only [Int.natCast_mul]
    grind
  · rw [e2, f1, Int.natAbs_mul]
    show g * k * (b' * c'.natAbs) = g * b' * (k * c'.natAbs)
    grind
end Go.Proofs.YtnbefpfijaimjaaGreatDoor
