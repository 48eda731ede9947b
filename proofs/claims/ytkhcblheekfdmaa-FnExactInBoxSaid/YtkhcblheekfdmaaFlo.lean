/- How near the floats come: an integer made a float, products, sums and a quotient of such, cut to an integer again. Plain facts on the model's floats; it speaks of no program. -/
import Derived.Laws.FloatArith
namespace Go.Proofs.Ytkhcblheekfdmaa
open Go Ieee
set_option maxRecDepth 20000

/-! Inequalities over letters, so that no great numeral comes near a decision procedure. -/
theorem up_ {Q m D T : Nat} (a1 : Q ≤ m + D) (q5 : D * T ≤ m) : Q * T ≤ m * (T + 1) := by
  have h := Nat.mul_le_mul_right T a1
  rw [Nat.add_mul] at h
  rw [Nat.mul_add, Nat.mul_one]
  omega
theorem dn_ {Q m D T : Nat} (a1 : m ≤ Q + D) (q5 : D * T ≤ m) : m * (T - 1) ≤ Q * T := by
  have h := Nat.mul_le_mul_right T a1
  rw [Nat.add_mul] at h
  rw [Nat.mul_sub, Nat.mul_one]
  omega
theorem le_up_ {m T : Nat} : m * T ≤ m * (T + 1) := Nat.mul_le_mul_left _ (by omega)
theorem dn_le_ {m T : Nat} : m * (T - 1) ≤ m * T := Nat.mul_le_mul_left _ (by omega)
theorem step_up_ {N N' M A B j : Nat} (a : N * A ≤ M * (A + j)) (h1 : N' * B ≤ N * (B + 1)) (hB : A + j ≤ B) (hB0 : 0 < B) : N' * A ≤ M * (A + (j + 1)) := by
  have c1 : N * A * (B + 1) ≤ M * (A + j) * (B + 1) := Nat.mul_le_mul_right _ a
  have c2 : N' * B * A ≤ N * (B + 1) * A := Nat.mul_le_mul_right _ h1
  have c3 : M * ((A + j) * (B + 1)) ≤ M * ((A + (j + 1)) * B) := by
    refine Nat.mul_le_mul_left _ ?_
    rw [Nat.mul_add, Nat.mul_one, show A + (j + 1) = (A + j) + 1 from rfl, Nat.add_mul (A + j) 1 B, Nat.one_mul]
    exact Nat.add_le_add_left hB _
  have e0 : N' * A * B ≤ M * (A + (j + 1)) * B := by
    rw [Nat.mul_right_comm N' A B, Nat.mul_assoc M]
    refine Nat.le_trans c2 ?_
    rw [Nat.mul_right_comm N (B + 1) A]
    refine Nat.le_trans c1 ?_
    rw [Nat.mul_assoc]
    exact c3
  exact Nat.le_of_mul_le_mul_right e0 hB0
theorem step_dn_ {N N' M A B j : Nat} (b : M * (A - j) ≤ N * A) (h2 : N * (B - 1) ≤ N' * B) (hj : j + 1 ≤ A) (hB : A ≤ B) (hB0 : 0 < B) : M * (A - (j + 1)) ≤ N' * A := by
  have c1 : M * (A - j) * (B - 1) ≤ N * A * (B - 1) := Nat.mul_le_mul_right _ b
  have c2 : N * (B - 1) * A ≤ N' * B * A := Nat.mul_le_mul_right _ h2
  have c3 : M * ((A - (j + 1)) * B) ≤ M * ((A - j) * (B - 1)) := by
    refine Nat.mul_le_mul_left _ ?_
    obtain ⟨k, hk⟩ := Nat.exists_eq_add_of_le hj
    obtain ⟨B', rfl⟩ := Nat.exists_eq_add_of_le hB0
    rw [show A - (j + 1) = k by omega, show A - j = k + 1 by omega, show (0 + 1 + B' : Nat) - 1 = B' by omega, Nat.add_mul k 1 B', Nat.one_mul, Nat.mul_add k, Nat.mul_one]
    omega
  have e0 : M * (A - (j + 1)) * B ≤ N' * A * B := by
    rw [Nat.mul_right_comm N' A B, Nat.mul_assoc M]
    refine Nat.le_trans c3 ?_
    rw [← Nat.mul_assoc]
    refine Nat.le_trans c1 ?_
    rw [Nat.mul_right_comm N A]
    exact c2
  exact Nat.le_of_mul_le_mul_right e0 hB0

/-- A power of 2. -/
@[irreducible] def pw (n : Nat) : Nat := 2 ^ n
theorem pw_eq (n : Nat) : pw n = 2 ^ n := by unfold pw; rfl
theorem pw_add (a b : Nat) : pw (a + b) = pw a * pw b := by rw [pw_eq, pw_eq, pw_eq]; exact Nat.pow_add 2 a b
theorem pw_addl (a b : Nat) : pw (a + b) = 2 ^ a * pw b := by rw [pw_eq, pw_eq]; exact Nat.pow_add 2 a b
theorem pw_pos (n : Nat) : 0 < pw n := by rw [pw_eq]; exact Nat.two_pow_pos n
theorem pw_le {a b : Nat} (h : a ≤ b) : pw a ≤ pw b := by rw [pw_eq, pw_eq]; exact Nat.pow_le_pow_right (by decide) h
/-- 'm * 2^p', in units of 2^-1100. -/
def un (m : Nat) (p : Int) : Nat := m * pw (p + 1100).toNat

theorem un_zero (p : Int) : un 0 p = 0 := by simp [un]

/-- The word w stands for the number N * 2^-1100, zero or of a middling size. -/
def IsF (w N : Nat) : Prop := ∃ m p, double.read w = .number false m p ∧ N = un m p ∧ ((m = 0 ∧ -1100 ≤ p ∧ p ≤ 0) ∨ (m ≠ 0 ∧ m < 2 ^ 53 ∧ -100 ≤ p ∧ p ≤ 200))

theorem cut_gap {m d : Nat} (hd : d ≤ m.log2 + 2) : ∃ c, Toward.even.cut false m d = m / 2 ^ d + c ∧ c ≤ 1 := by
  unfold Toward.cut
  rw [Nat.min_eq_left hd, Nat.one_shiftLeft]
  refine ⟨_, rfl, ?_⟩
  exact Bool.toNat_le _

theorem cut_zero (m : Nat) : Toward.even.cut false m 0 = m := by
  unfold Toward.cut
  simp [Nat.mod_one]

theorem double_binade : double.binade = 2 ^ 52 := rfl
theorem double_least : double.leastPlace = -1074 := by decide
theorem double_inf : double.infRung = 2047 * 2 ^ 52 := by decide
theorem double_sign : double.signWeight = 2 ^ 63 := rfl

/-- What a rung reads as. -/
theorem read_rung {t k : Nat} (ht : t ≤ 2000) (h1 : 2 ^ 52 ≤ k) (h2 : k < 2 ^ 53) : double.read (t * 2 ^ 52 + k) = .number false k (-1074 + t) := by
  have e0 : t * 2 ^ 52 + k < 2 ^ 63 := by omega
  have e1 : (t * 2 ^ 52 + k) / 2 ^ 63 = 0 := Nat.div_eq_of_lt e0
  have e2 : (t * 2 ^ 52 + k) % 2 ^ 63 = t * 2 ^ 52 + k := Nat.mod_eq_of_lt e0
  have e3 : (t * 2 ^ 52 + k) % 2 ^ 52 = k - 2 ^ 52 := by omega
  have e4 : (t * 2 ^ 52 + k) / 2 ^ 52 = t + 1 := by omega
  unfold Format.read
  simp only [double_sign, double_binade, double_inf, double_least, e1, e2, e3, e4]
  rw [if_neg (by omega), if_pos (by omega)]
  simp
  omega

/-- Rounding: near. -/
theorem rnd {m : Nat} {p : Int} (hm : m ≠ 0) (h1 : -40 ≤ p + m.log2) (h2 : p + m.log2 ≤ 200) (hp : -1100 ≤ p) :
    ∃ k l, double.read (double.nearest false m p) = .number false k l ∧ k ≠ 0 ∧ k < 2 ^ 53 ∧ -100 ≤ l ∧ l ≤ 200 ∧ un k l * 2 ^ 52 ≤ un m p * (2 ^ 52 + 1) ∧ un m p * (2 ^ 52 - 1) ≤ un k l * 2 ^ 52 := by
  have hl1 : 2 ^ m.log2 ≤ m := Nat.log2_self_le hm
  have hl2 : m < 2 ^ (m.log2 + 1) := Nat.lt_log2_self
  generalize hL : m.log2 = L at *
  -- the kept digits
  have key : ∃ kept : Nat, Toward.even.cut false (m <<< (p - (p + L - 52)).toNat) ((p + L - 52) - p).toNat = kept ∧ 2 ^ 52 ≤ kept ∧ kept ≤ 2 ^ 53 ∧
      un kept (p + L - 52) * 2 ^ 52 ≤ un m p * (2 ^ 52 + 1) ∧ un m p * (2 ^ 52 - 1) ≤ un kept (p + L - 52) * 2 ^ 52 := by
    by_cases hc : 52 ≤ L
    · obtain ⟨d, rfl⟩ := Nat.exists_eq_add_of_le hc
      have e1 : (p - (p + ((52 + d : Nat) : Int) - 52)).toNat = 0 := by omega
      have e2 : ((p + ((52 + d : Nat) : Int) - 52) - p).toNat = d := by omega
      rw [e1, e2, Nat.shiftLeft_zero]
      obtain ⟨c, hc1, hc2⟩ := cut_gap (m := m) (d := d) (by omega)
      refine ⟨_, hc1, ?_⟩
      have hpos : 0 < 2 ^ d := Nat.two_pow_pos d
      have q1 : 2 ^ 52 ≤ m / 2 ^ d := by
        rw [Nat.le_div_iff_mul_le hpos, ← Nat.pow_add]
        exact hl1
      have q2 : m / 2 ^ d < 2 ^ 53 := by
        rw [Nat.div_lt_iff_lt_mul hpos, ← Nat.pow_add]
        rw [show 53 + d = 52 + d + 1 by omega]
        exact hl2
      have e3 : un (m / 2 ^ d + c) (p + ((52 + d : Nat) : Int) - 52) = ((m / 2 ^ d + c) * 2 ^ d) * pw (p + 1100).toNat := by
        unfold un
        rw [show (p + ((52 + d : Nat) : Int) - 52 + 1100).toNat = d + (p + 1100).toNat by omega, pw_addl, Nat.mul_assoc]
      have e4 : un m p = m * pw (p + 1100).toNat := rfl
      have q3 := Nat.div_add_mod m (2 ^ d)
      have q4 := Nat.mod_lt m hpos
      rw [e3, e4]
      generalize pw (p + 1100).toNat = X
      generalize hD : 2 ^ d = D at *
      generalize hq : m / D = q at *
      generalize hr : m % D = r at *
      have q5 : D * 2 ^ 52 ≤ m := by
        have : D * 2 ^ 52 ≤ D * q := Nat.mul_le_mul_left _ q1
        omega
      refine ⟨by omega, by omega, ?_, ?_⟩
      · have : (q + c) * D * 2 ^ 52 ≤ m * (2 ^ 52 + 1) := by
          refine up_ (D := D) ?_ q5
          have : c * D ≤ 1 * D := Nat.mul_le_mul_right _ hc2
          rw [Nat.add_mul, Nat.mul_comm q D]
          clear q5 q1 q2 hl1 hl2 hm
          omega
        have b := Nat.mul_le_mul_right X this
        calc (q + c) * D * X * 2 ^ 52 = (q + c) * D * 2 ^ 52 * X := by rw [Nat.mul_right_comm]
          _ ≤ m * (2 ^ 52 + 1) * X := b
          _ = m * X * (2 ^ 52 + 1) := by rw [Nat.mul_right_comm]
      · have : m * (2 ^ 52 - 1) ≤ (q + c) * D * 2 ^ 52 := by
          refine dn_ (D := D) ?_ q5
          rw [Nat.add_mul, Nat.mul_comm q D]
          clear q5 q1 q2 hl1 hl2 hm
          omega
        have b := Nat.mul_le_mul_right X this
        calc m * X * (2 ^ 52 - 1) = m * (2 ^ 52 - 1) * X := by rw [Nat.mul_right_comm]
          _ ≤ (q + c) * D * 2 ^ 52 * X := b
          _ = (q + c) * D * X * 2 ^ 52 := by rw [Nat.mul_right_comm]
    · obtain ⟨d, hd⟩ := Nat.exists_eq_add_of_le (show L ≤ 52 by omega)
      have e1 : (p - (p + (L : Int) - 52)).toNat = d := by omega
      have e2 : ((p + (L : Int) - 52) - p).toNat = 0 := by omega
      rw [e1, e2, cut_zero, Nat.shiftLeft_eq]
      refine ⟨_, rfl, ?_⟩
      have q1 : 2 ^ L * 2 ^ d = 2 ^ 52 := by rw [← Nat.pow_add, ← hd]
      have q2 : 2 ^ (L + 1) * 2 ^ d = 2 ^ 53 := by rw [← Nat.pow_add]; congr 1; omega
      have a1 := Nat.mul_le_mul_right (2 ^ d) hl1
      have a2 : m * 2 ^ d < 2 ^ (L + 1) * 2 ^ d := Nat.mul_lt_mul_of_pos_right hl2 (Nat.two_pow_pos d)
      have e3 : un (m * 2 ^ d) (p + (L : Int) - 52) = un m p := by
        unfold un
        rw [show (p + 1100).toNat = d + (p + (L : Int) - 52 + 1100).toNat by omega, pw_addl, Nat.mul_assoc]
      rw [e3]
      refine ⟨by omega, by omega, ?_, ?_⟩
      · exact Nat.mul_le_mul_left _ (by omega)
      · exact Nat.mul_le_mul_left _ (by omega)
  obtain ⟨kept, hk, k1, k2, k3, k4⟩ := key
  have hlast : max (p + (m.log2 : Int) - (double.fractionBits : Int)) double.leastPlace = p + L - 52 := by
    rw [double_least, hL]
    show max (p + (L : Int) - 52) (-1074) = _
    omega
  have hn : double.nearest false m p = (p + L - 52 + 1074).toNat * 2 ^ 52 + kept := by
    unfold Format.nearest
    rw [if_neg hm]
    simp only [hlast]
    simp only [hk, double_least, double_binade, double_inf]
    unfold Format.word
    simp only [Bool.false_eq_true, if_false]
    rw [show (p + (L : Int) - 52 - -1074) = p + L - 52 + 1074 by omega]
    refine Nat.min_eq_left (Nat.le_trans (Nat.add_le_add (Nat.mul_le_mul_right _ (show (p + (L : Int) - 52 + 1074).toNat ≤ 1222 by omega)) k2) (by decide))
  rw [hn]
  by_cases hlt : kept < 2 ^ 53
  · refine ⟨kept, _, read_rung (by omega) k1 hlt, by omega, hlt, by omega, by omega, ?_, ?_⟩
    · rw [show (-1074 + ((p + (L : Int) - 52 + 1074).toNat : Int)) = p + L - 52 by omega]; exact k3
    · rw [show (-1074 + ((p + (L : Int) - 52 + 1074).toNat : Int)) = p + L - 52 by omega]; exact k4
  · have e : kept = 2 ^ 53 := by omega
    subst e
    have e1 : (p + (L : Int) - 52 + 1074).toNat * 2 ^ 52 + 2 ^ 53 = ((p + (L : Int) - 52 + 1074).toNat + 1) * 2 ^ 52 + 2 ^ 52 := by omega
    have e2 : un (2 ^ 52) (-1074 + (((p + (L : Int) - 52 + 1074).toNat + 1 : Nat) : Int)) = un (2 ^ 53) (p + L - 52) := by
      unfold un
      rw [show (-1074 + (((p + (L : Int) - 52 + 1074).toNat + 1 : Nat) : Int) + 1100).toNat = 1 + (p + (L : Int) - 52 + 1100).toNat by omega, pw_addl, ← Nat.mul_assoc]
    rw [e1]
    refine ⟨2 ^ 52, _, read_rung (by omega) (by omega) (by omega), by omega, by omega, by omega, by omega, ?_, ?_⟩
    · rw [e2]; exact k3
    · rw [e2]; exact k4

/-- N is M up to j parts of 2^48. -/
def Cl (j N M : Nat) : Prop := N * 2 ^ 48 ≤ M * (2 ^ 48 + j) ∧ M * (2 ^ 48 - j) ≤ N * 2 ^ 48

theorem Cl.refl (M : Nat) : Cl 0 M M := ⟨Nat.le_refl _, Nat.le_refl _⟩
theorem Cl.mono {i j N M : Nat} (h : Cl i N M) (hij : i ≤ j) : Cl j N M :=
  ⟨Nat.le_trans h.1 (Nat.mul_le_mul_left _ (by omega)), Nat.le_trans (Nat.mul_le_mul_left _ (by omega)) h.2⟩
theorem Cl.add {j N M N' M' : Nat} (h : Cl j N M) (k : Cl j N' M') : Cl j (N + N') (M + M') :=
  ⟨by rw [Nat.add_mul, Nat.add_mul]; exact Nat.add_le_add h.1 k.1, by rw [Nat.add_mul, Nat.add_mul]; exact Nat.add_le_add h.2 k.2⟩
theorem Cl.mul {j N M : Nat} (h : Cl j N M) (c : Nat) : Cl j (N * c) (M * c) :=
  ⟨by rw [Nat.mul_right_comm, Nat.mul_right_comm M]; exact Nat.mul_le_mul_right _ h.1, by rw [Nat.mul_right_comm, Nat.mul_right_comm N]; exact Nat.mul_le_mul_right _ h.2⟩
/-- One more rounding. -/
theorem Cl.step {j N N' M : Nat} (h : Cl j N M) (hj : j ≤ 1000) (h1 : N' * 2 ^ 52 ≤ N * (2 ^ 52 + 1)) (h2 : N * (2 ^ 52 - 1) ≤ N' * 2 ^ 52) : Cl (j + 1) N' M :=
  ⟨step_up_ h.1 h1 (Nat.le_trans (Nat.add_le_add_left hj _) (by decide)) (by decide), step_dn_ h.2 h2 (Nat.le_trans (Nat.add_le_add_right hj 1) (by decide)) (by decide) (by decide)⟩

theorem Cl.trans1 {N M L : Nat} (h : Cl 1 N M) (k : Cl 1 M L) : Cl 3 N L := by
  obtain ⟨a, b⟩ := h
  obtain ⟨c, d⟩ := k
  unfold Cl
  have hT : 4 ≤ 2 ^ 48 := by decide
  generalize (2 : Nat) ^ 48 = T at *
  constructor
  · refine Nat.le_of_mul_le_mul_right (c := T) ?_ (by omega)
    have p1 := Nat.mul_le_mul_right T a
    have p2 := Nat.mul_le_mul_right (T + 1) c
    have p3 : L * ((T + 1) * (T + 1)) ≤ L * ((T + 3) * T) := by
      refine Nat.mul_le_mul_left _ ?_
      rw [Nat.mul_add, Nat.mul_one, Nat.add_mul, Nat.add_mul, Nat.one_mul]
      omega
    refine Nat.le_trans p1 ?_
    rw [Nat.mul_right_comm]
    refine Nat.le_trans p2 ?_
    rw [Nat.mul_assoc, Nat.mul_assoc]
    exact p3
  · refine Nat.le_of_mul_le_mul_right (c := T) ?_ (by omega)
    have p1 := Nat.mul_le_mul_right (T - 1) d
    have p2 := Nat.mul_le_mul_right T b
    have p3 : L * ((T - 3) * T) ≤ L * ((T - 1) * (T - 1)) := by
      refine Nat.mul_le_mul_left _ ?_
      obtain ⟨u, rfl⟩ := Nat.exists_eq_add_of_le (show 3 ≤ T by omega)
      rw [show 3 + u - 3 = u by omega, show 3 + u - 1 = u + 2 by omega, Nat.mul_add, Nat.add_mul, Nat.mul_add, Nat.mul_comm u 3]
      omega
    rw [Nat.mul_assoc]
    refine Nat.le_trans p3 ?_
    rw [← Nat.mul_assoc]
    refine Nat.le_trans p1 ?_
    rw [Nat.mul_right_comm]
    exact p2

/-- The unit. -/
def UU : Nat := pw 1100

theorem un_log {m : Nat} {p : Int} (hm : m ≠ 0) (hp : -1100 ≤ p) : pw (p + m.log2 + 1100).toNat ≤ un m p ∧ un m p < pw (p + m.log2 + 1101).toNat := by
  have hl1 : 2 ^ m.log2 ≤ m := Nat.log2_self_le hm
  have hl2 : m < 2 ^ (m.log2 + 1) := Nat.lt_log2_self
  unfold un
  rw [show (p + (m.log2 : Int) + 1100).toNat = m.log2 + (p + 1100).toNat by omega, show (p + (m.log2 : Int) + 1101).toNat = (m.log2 + 1) + (p + 1100).toNat by omega, pw_addl, pw_addl]
  exact ⟨Nat.mul_le_mul_right _ hl1, Nat.mul_lt_mul_of_pos_right hl2 (pw_pos _)⟩

/-- Of a middling size. -/
def Mid (N : Nat) : Prop := pw 1090 ≤ N ∧ N < pw 1290

theorem mid_log {m : Nat} {p : Int} (hm : m ≠ 0) (hp : -1100 ≤ p) (h : Mid (un m p)) : -40 ≤ p + m.log2 ∧ p + m.log2 ≤ 200 := by
  obtain ⟨a, b⟩ := un_log hm hp
  obtain ⟨c, d⟩ := h
  constructor
  · apply Classical.byContradiction
    intro hn
    have := pw_le (show (p + (m.log2 : Int) + 1101).toNat ≤ 1090 by omega)
    exact absurd (Nat.lt_of_lt_of_le b this) (Nat.not_lt.2 c)
  · apply Classical.byContradiction
    intro hn
    have := pw_le (show 1290 ≤ (p + (m.log2 : Int) + 1100).toNat by omega)
    exact absurd (Nat.lt_of_le_of_lt (Nat.le_trans this a) d) (Nat.lt_irrefl _)

theorem isF_write {m : Nat} {p : Int} {j M : Nat} (hm : m ≠ 0) (hmid : Mid (un m p)) (hp : -1100 ≤ p) (hc : Cl j (un m p) M) (hj : j ≤ 1000) :
    ∃ N, IsF (double.write (.number false m p)) N ∧ Cl (j + 1) N M := by
  obtain ⟨h1, h2⟩ := mid_log hm hp hmid
  obtain ⟨k, l, r, k0, k1, l1, l2, c1, c2⟩ := rnd hm h1 h2 hp
  exact ⟨_, ⟨k, l, r, rfl, .inr ⟨k0, k1, l1, l2⟩⟩, hc.step hj c1 c2⟩

theorem write_zero (p : Int) : double.write (.number false 0 p) = 0 := rfl
theorem isF_zero : IsF 0 0 := ⟨0, -1074, by decide, (un_zero _).symm, .inl ⟨rfl, by decide, by decide⟩⟩

/-- An integer. -/
theorem f_int {n : Nat} (h : n < 1000000000) : ∃ N, IsF (floatOfInt .f64 (n : Int)) N ∧ Cl 1 N (n * UU) := by
  have e : floatOfInt .f64 (n : Int) = double.write (.number false n 0) := by
    show double.write (.number (decide ((n : Int) < 0)) (n : Int).natAbs 0) = _
    rw [Int.natAbs_natCast]
    congr
  rw [e]
  by_cases h0 : n = 0
  · subst h0
    exact ⟨0, isF_zero, by simp [Cl]⟩
  · have e1 : un n 0 = n * UU := rfl
    refine isF_write (j := 0) h0 ?_ (by decide) (by rw [e1]; exact Cl.refl _) (by decide)
    rw [e1]
    refine ⟨Nat.le_trans (pw_le (show 1090 ≤ 1100 by decide)) (Nat.le_mul_of_pos_left _ (by omega)), ?_⟩
    have h2 : n * UU < 2 ^ 190 * UU := Nat.mul_lt_mul_of_pos_right (by omega) (pw_pos 1100)
    rwa [show 2 ^ 190 * UU = pw 1290 from (pw_addl 190 1100).symm] at h2

/-- The float of 1000000000. -/
def kB : Nat := 4741671816366391296
theorem read_kB : double.read kB = .number false 8388608000000000 (-23) := by decide +kernel

theorem pow_split (a : Int) (b : Int) (ha : -1100 ≤ a) (hb : -1100 ≤ b) (hab : -1100 ≤ a + b) : pw (a + 1100).toNat * pw (b + 1100).toNat = pw (a + b + 1100).toNat * UU := by
  unfold UU
  rw [← pw_add, ← pw_add]
  congr 1
  omega

theorem un_mul (m n : Nat) (p q : Int) (hp : -1100 ≤ p) (hq : -1100 ≤ q) (hpq : -1100 ≤ p + q) : un (m * n) (p + q) * UU = un m p * un n q := by
  unfold un
  rw [Nat.mul_assoc, ← pow_split p q hp hq hpq]
  rw [Nat.mul_mul_mul_comm]

theorem un_kB : un 8388608000000000 (-23) = 1000000000 * UU := by
  unfold un UU
  rw [show ((-23 : Int) + 1100).toNat = 1077 by decide, show pw 1100 = 2 ^ 23 * pw 1077 from pw_addl 23 1077, ← Nat.mul_assoc]

theorem UU_pos : 0 < UU := pw_pos _

def Mids (M : Nat) : Prop := pw 1095 ≤ M ∧ M < pw 1285
theorem mid_of_cl {j N M : Nat} (h : Cl j N M) (hj : j ≤ 1000) (hM : Mids M) : Mid N := by
  obtain ⟨a, b⟩ := h
  obtain ⟨c, d⟩ := hM
  have h1 : M * (2 ^ 48 + j) ≤ M * 2 ^ 49 := Nat.mul_le_mul_left _ (by omega)
  have h2 : M * 2 ^ 47 ≤ M * (2 ^ 48 - j) := Nat.mul_le_mul_left _ (by omega)
  have e1 : pw 1290 = 2 ^ 5 * pw 1285 := pw_addl 5 1285
  have e2 : pw 1095 = 2 ^ 5 * pw 1090 := pw_addl 5 1090
  unfold Mid
  generalize pw 1290 = X at *
  generalize pw 1285 = X' at *
  generalize pw 1095 = Y at *
  generalize pw 1090 = Y' at *
  omega

/-- Times 1000000000. -/
theorem f_mul {x N j M : Nat} (hx : IsF x N) (hc : Cl j N M) (hj : j ≤ 100) (hM : M = 0 ∨ Mids (M * 1000000000)) :
    ∃ r K, floatBits .mul .f64 x kB = some r ∧ IsF r K ∧ Cl (j + 1) K (M * 1000000000) := by
  obtain ⟨m, p, hr, rfl, hb⟩ := hx
  have e : floatBits .mul .f64 x kB = some (double.write (.number false (m * 8388608000000000) (p + -23))) := by
    show ((double.read x).product (double.read kB)).map double.write = _
    rw [hr, read_kB]
    rfl
  rw [e]
  by_cases hm : m = 0
  · subst hm
    rw [Nat.zero_mul, write_zero]
    refine ⟨_, 0, rfl, isF_zero, ?_⟩
    have h1 := hc.2
    rw [un_zero, Nat.zero_mul] at h1
    have hM0 : M = 0 := by
      rcases Nat.mul_eq_zero.1 (Nat.le_zero.1 h1) with h | h
      · exact h
      · omega
    subst hM0
    simp [Cl]
  · obtain ⟨hm', hm53, hp1, hp2⟩ : m ≠ 0 ∧ m < 2 ^ 53 ∧ -100 ≤ p ∧ p ≤ 200 := by
      rcases hb with hb | hb
      · exact absurd hb.1 hm
      · exact hb
    have e1 : un (m * 8388608000000000) (p + -23) = un m p * 1000000000 := by
      have := un_mul m 8388608000000000 p (-23) (by omega) (by decide) (by omega)
      rw [un_kB, ← Nat.mul_assoc] at this
      exact Nat.eq_of_mul_eq_mul_right UU_pos this
    have hc' : Cl j (un (m * 8388608000000000) (p + -23)) (M * 1000000000) := by rw [e1]; exact hc.mul _
    have hM0 : M ≠ 0 := by
      rintro rfl
      have := hc.1
      rw [Nat.zero_mul] at this
      have h2 : un m p = 0 := by
        rcases Nat.mul_eq_zero.1 (Nat.le_zero.1 this) with h | h
        · exact h
        · omega
      unfold un at h2
      rcases Nat.mul_eq_zero.1 h2 with h | h
      · exact hm h
      · exact absurd h (Nat.ne_of_gt (pw_pos _))
    rcases hM with hM | hM1
    · exact absurd hM hM0
    have hmid : Mid (un (m * 8388608000000000) (p + -23)) := mid_of_cl hc' (by omega) hM1
    obtain ⟨K, k1, k2⟩ := isF_write (Nat.mul_ne_zero hm (by decide)) hmid (by omega) hc' (by omega)
    exact ⟨_, K, rfl, k1, k2⟩

/-- The number and its place, of a word that is no zero. -/
theorem un_shift (m : Nat) (p : Int) (k : Nat) (hp : -1100 ≤ p - k) : un (m <<< k) (p - k) = un m p := by
  unfold un
  rw [Nat.shiftLeft_eq, Nat.mul_assoc, ← pw_addl]
  congr 2
  omega

/-- A sum. -/
theorem f_add {x y N M j A B : Nat} (hx : IsF x N) (hy : IsF y M) (hc : Cl j N A) (hd : Cl j M B) (hj : j ≤ 100) (hM : Mids (A + B)) :
    ∃ r K, floatBits .add .f64 x y = some r ∧ IsF r K ∧ Cl (j + 1) K (A + B) := by
  obtain ⟨m, p, hr, rfl, hb⟩ := hx
  obtain ⟨n, q, hs, rfl, hb'⟩ := hy
  have hp : -1100 ≤ p ∧ p ≤ 200 := by omega
  have hq : -1100 ≤ q ∧ q ≤ 200 := by omega
  obtain ⟨i, hi⟩ : ∃ i : Nat, p = min p q + i := ⟨(p - min p q).toNat, by omega⟩
  obtain ⟨k, hk⟩ : ∃ k : Nat, q = min p q + k := ⟨(q - min p q).toNat, by omega⟩
  have e1 : un (m <<< i) (min p q) = un m p := by
    have := un_shift m p i (by omega)
    rwa [show p - (i : Int) = min p q by omega] at this
  have e2 : un (n <<< k) (min p q) = un n q := by
    have := un_shift n q k (by omega)
    rwa [show q - (k : Int) = min p q by omega] at this
  have e3 : un (m <<< i + n <<< k) (min p q) = un m p + un n q := by
    rw [← e1, ← e2]; unfold un; rw [Nat.add_mul]
  have hcl := hc.add hd
  have hmid := mid_of_cl hcl (by omega) hM
  have ht : m <<< i + n <<< k ≠ 0 := by
    intro h0
    rw [h0, un_zero] at e3
    rw [← e3] at hmid
    exact absurd (Nat.lt_of_lt_of_le (pw_pos 1090) hmid.1) (Nat.lt_irrefl 0)
  have e : floatBits .add .f64 x y = some (double.write (.number false (m <<< i + n <<< k) (min p q))) := by
    show ((double.read x).sum (double.read y)).map double.write = _
    rw [hr, hs]
    unfold Datum.sum
    simp only [Option.map_some, signed, Bool.false_eq_true, if_false]
    rw [show (p - min p q).toNat = i by omega, show (q - min p q).toNat = k by omega]
    have h0 : ((m <<< i : Nat) : Int) + ((n <<< k : Nat) : Int) = ((m <<< i + n <<< k : Nat) : Int) := by omega
    rw [h0, Int.natAbs_natCast, if_neg (by omega)]
    congr
  rw [e]
  rw [← e3] at hcl hmid
  obtain ⟨K, k1, k2⟩ := isF_write ht hmid (by omega) hcl (by omega)
  exact ⟨_, K, rfl, k1, k2⟩

/-- A quotient of words that are no zeros. -/
theorem f_div {x y N M : Nat} (hx : IsF x N) (hy : IsF y M) (hN : N ≠ 0) (hM : M ≠ 0) (hmid : 2 * (N * UU / M) + 2 < pw 1290 ∧ Mid (N * UU / M / 2)) :
    ∃ r K, floatBits .quo .f64 x y = some r ∧ IsF r K ∧ Cl 3 (K * M) (N * UU) := by
  obtain ⟨m, p, hr, rfl, hb⟩ := hx
  obtain ⟨n, q, hs, rfl, hb'⟩ := hy
  have hm : m ≠ 0 := by rintro rfl; exact hN (un_zero _)
  have hn : n ≠ 0 := by rintro rfl; exact hM (un_zero _)
  obtain ⟨_, hm53, hp1, hp2⟩ : m ≠ 0 ∧ m < 2 ^ 53 ∧ -100 ≤ p ∧ p ≤ 200 := by omega
  obtain ⟨_, hn53, hq1, hq2⟩ : n ≠ 0 ∧ n < 2 ^ 53 ∧ -100 ≤ q ∧ q ≤ 200 := by omega
  have lm1 : 2 ^ m.log2 ≤ m := Nat.log2_self_le hm
  have lm2 : m.log2 < 53 := (Nat.log2_lt hm).2 hm53
  have ln2 : n.log2 < 53 := (Nat.log2_lt hn).2 hn53
  have ln3 : n < 2 ^ (n.log2 + 1) := Nat.lt_log2_self
  obtain ⟨more, hmore⟩ : ∃ more, more = 54 + n.log2 - m.log2 := ⟨_, rfl⟩
  obtain ⟨s, hs1, hs2⟩ : ∃ s : Nat, s = (m <<< more % n != 0).toNat ∧ s ≤ 1 := ⟨_, rfl, Bool.toNat_le _⟩
  have e : floatBits .quo .f64 x y = some (double.write (.number false (2 * (m <<< more / n) + s) (p - q - more - 1))) := by
    show ((double.read x).quotient (double.fractionBits + 2) (double.read y)).map double.write = _
    rw [hr, hs]
    unfold Datum.quotient
    simp only [if_neg hn, Option.map_some]
    rw [show double.fractionBits + 2 + n.log2 - m.log2 = more from hmore.symm, ← hs1]
    rfl
  rw [e]
  -- the dividend
  have hD : 2 ^ 53 * n ≤ m <<< more := by
    rw [Nat.shiftLeft_eq]
    have a1 : 2 ^ m.log2 * 2 ^ more ≤ m * 2 ^ more := Nat.mul_le_mul_right _ lm1
    rw [← Nat.pow_add, show m.log2 + more = 53 + (n.log2 + 1) by omega, Nat.pow_add] at a1
    have a2 := Nat.mul_le_mul_left (2 ^ 53) (Nat.le_of_lt ln3)
    omega
  have dv := Nat.div_add_mod (m <<< more) n
  have dm := Nat.mod_lt (m <<< more) (Nat.pos_of_ne_zero hn)
  have b1 : (2 * (m <<< more / n) + s) * n ≤ 2 * (m <<< more) + n := by
    rw [Nat.add_mul, Nat.mul_assoc, Nat.mul_comm _ n]
    have := Nat.mul_le_mul_right n hs2
    omega
  have b2 : 2 * (m <<< more) ≤ (2 * (m <<< more / n) + s) * n + 2 * n := by
    rw [Nat.add_mul, Nat.mul_assoc, Nat.mul_comm _ n]
    omega
  have b0 : 2 * (m <<< more / n) + s ≠ 0 := by
    have : 1 ≤ m <<< more / n := by
      rw [Nat.le_div_iff_mul_le (Nat.pos_of_ne_zero hn)]
      omega
    omega
  generalize hmag : 2 * (m <<< more / n) + s = mag at *
  -- in units
  have u1 : un mag (p - q - more - 1) * un n q = mag * n * (pw (p - more - 1 + 1100).toNat * UU) := by
    rw [← un_mul mag n _ q (by omega) (by omega) (by omega)]
    rw [show p - q - (more : Int) - 1 + q = p - more - 1 by omega]
    unfold un
    rw [Nat.mul_assoc]
  have u2 : un m p * UU = 2 * (m <<< more) * (pw (p - more - 1 + 1100).toNat * UU) := by
    have h3 : un m p = 2 * (m <<< more) * pw (p - more - 1 + 1100).toNat := by
      unfold un
      rw [Nat.shiftLeft_eq, show (p + 1100).toNat = more + 1 + (p - more - 1 + 1100).toNat by omega, pw_addl, Nat.pow_add]
      simp only [Nat.mul_assoc, Nat.mul_left_comm, Nat.pow_one]
    rw [h3, Nat.mul_assoc]
  generalize pw (p - more - 1 + 1100).toNat * UU = Z at u1 u2
  have hcl : Cl 1 (un mag (p - q - more - 1) * un n q) (un m p * UU) := by
    rw [u1, u2]
    refine Cl.mul ⟨?_, ?_⟩ Z
    · omega
    · omega
  have hmid' : Mid (un mag (p - q - more - 1)) := by
    have hMp : 0 < un n q := Nat.pos_of_ne_zero hM
    have c1 : un mag (p - q - more - 1) ≤ 2 * (un m p * UU / un n q) + 2 := by
      have := hcl.1
      have h3 : un mag (p - q - more - 1) * un n q ≤ 2 * (un m p * UU) := by omega
      have h4 : un mag (p - q - more - 1) ≤ 2 * (un m p * UU) / un n q := (Nat.le_div_iff_mul_le hMp).2 h3
      have h5 : 2 * (un m p * UU) / un n q < 2 * (un m p * UU / un n q) + 2 := by
        rw [Nat.div_lt_iff_lt_mul hMp]
        have := Nat.lt_mul_div_succ (un m p * UU) hMp
        rw [Nat.add_mul, Nat.mul_assoc, Nat.mul_comm _ (un n q)]
        rw [Nat.mul_add] at this
        omega
      omega
    have c2 : un m p * UU / un n q / 2 ≤ un mag (p - q - more - 1) := by
      have := hcl.2
      have h3 : un m p * UU ≤ 2 * (un mag (p - q - more - 1) * un n q) := by omega
      have h4 : un m p * UU / un n q ≤ 2 * un mag (p - q - more - 1) := by
        apply Nat.div_le_of_le_mul
        rw [Nat.mul_comm (un n q), Nat.mul_assoc]
        exact h3
      omega
    exact ⟨Nat.le_trans hmid.2.1 c2, Nat.lt_of_le_of_lt c1 hmid.1⟩
  obtain ⟨K, k1, k2⟩ := isF_write (j := 0) b0 hmid' (by omega) (Cl.refl _) (by decide)
  refine ⟨_, K, rfl, k1, ?_⟩
  have k3 := k2.mul (un n q)
  have k4 : Cl 1 (K * un n q) (un mag (p - q - more - 1) * un n q) := k3
  exact Cl.trans1 k4 hcl

/-- Cut to an integer. -/
theorem f_toInt {r K : Nat} (h : IsF r K) (hK : K / UU < 2 ^ 62) : floatToIntVal .f64 r .i64 = some ((K / UU : Nat) : Int) := by
  obtain ⟨m, p, hr, rfl, hb⟩ := h
  have e : (double.read r).toInt .zero = some ((un m p / UU : Nat) : Int) := by
    rw [hr]
    unfold Datum.toInt Datum.integral Toward.cut
    simp only [signed, Bool.false_eq_true, if_false, Bool.toNat_false, Nat.add_zero, Nat.shiftLeft_zero, Option.some.injEq]
    congr 1
    by_cases hp : 0 ≤ p
    · rw [show (-p).toNat = 0 by omega, Nat.zero_min, Nat.shiftLeft_zero, Nat.div_one, Nat.shiftLeft_eq]
      unfold un UU
      rw [show (p + 1100).toNat = p.toNat + 1100 by omega, pw_addl, ← Nat.mul_assoc, Nat.mul_div_cancel _ (pw_pos _)]
    · obtain ⟨d, hd⟩ : ∃ d : Nat, (d : Int) = -p := ⟨(-p).toNat, by omega⟩
      rw [show p.toNat = 0 by omega, Nat.shiftLeft_zero, show (-p).toNat = d by omega, Nat.one_shiftLeft]
      have hd2 : d ≤ 1100 := by omega
      have e1 : un m p / UU = m / 2 ^ d := by
        unfold un UU
        obtain ⟨k, hk⟩ := Nat.exists_eq_add_of_le hd2
        rw [show (p + 1100).toNat = k by omega, hk, pw_addl, Nat.mul_comm (2 ^ d), Nat.mul_comm m, Nat.mul_div_mul_left _ _ (pw_pos _)]
      rw [e1]
      by_cases hle : d ≤ m.log2 + 2
      · rw [Nat.min_eq_left hle]
      · rw [Nat.min_eq_right (by omega)]
        have h1 : m < 2 ^ (m.log2 + 1) := Nat.lt_log2_self
        have h2 := Nat.pow_le_pow_right (show 2 > 0 by decide) (show m.log2 + 1 ≤ m.log2 + 2 by omega)
        have h3 := Nat.pow_le_pow_right (show 2 > 0 by decide) (show m.log2 + 1 ≤ d by omega)
        rw [Nat.div_eq_of_lt (Nat.lt_of_lt_of_le h1 h2), Nat.div_eq_of_lt (Nat.lt_of_lt_of_le h1 h3)]
  unfold floatToIntVal
  have e' : (FloatKind.f64.decode r).toInt .zero = some ((un m p / UU : Nat) : Int) := e
  rw [e']
  have h1 : IntKind.i64.min = -9223372036854775808 := by decide
  have h2 : IntKind.i64.max = 9223372036854775807 := by decide
  simp only [h1, h2]
  generalize un m p / UU = z at *
  rw [if_pos (by omega)]

end Go.Proofs.Ytkhcblheekfdmaa
