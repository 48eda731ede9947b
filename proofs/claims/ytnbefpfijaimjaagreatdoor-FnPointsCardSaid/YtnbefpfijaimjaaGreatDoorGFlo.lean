/- Several texts laid together; each has its own word at its head. -/
import Derived.Laws.FloatArith
/- How near the floats come: an integer made a float, products, sums and a quotient of such, cut to an integer again. Plain facts on the model's floats; it speaks of no program. -/
namespace Go.Proofs.YtnbefpfijaimjaaGreatDoor
open Go Ieee
set_option maxRecDepth 20000

/-! Inequalities over letters, so that no great numeral comes near a decision procedure. -/
theorem up_ {Q m D T : Nat} (a1 : Q ≤ m + D) (q5 : D * T ≤ m) : Q * T ≤ m * (T + 1) := by
  have h := Nat.mul_le_mul_right T a1
  rw [Nat.add_mul] at h
  rw [Nat.mul_add, Nat.mul_one]
  omega
theorem dn_ {Q m D T : Nat} (a1 : m ≤ Q + D) (q5 : D * T ≤ m) : m * (T - 1) ≤ Q * T := by
  have h := Nat.mul_le_mul_right T a1
  rw [Nat.add_mul] at h
  rw [Nat.mul_sub, Nat.mul_one]
  omega
theorem le_up_ {m T : Nat} : m * T ≤ m * (T + 1) := Nat.mul_le_mul_left _ (by omega)
theorem dn_le_ {m T : Nat} : m * (T - 1) ≤ m * T := Nat.mul_le_mul_left _ (by omega)
theorem step_up_ {N N' M A B j : Nat} (a : N * A ≤ M * (A + j)) (h1 : N' * B ≤ N * (B + 1)) (hB : A + j ≤ B) (hB0 : 0 < B) : N' * A ≤ M * (A + (j + 1)) := by
  have c1 : N * A * (B + 1) ≤ M * (A + j) * (B + 1) := Nat.mul_le_mul_right _ a
  have c2 : N' * B * A ≤ N * (B + 1) * A := Nat.mul_le_mul_right _ h1
  have c3 : M * ((A + j) * (B + 1)) ≤ M * ((A + (j + 1)) * B) := by
    refine Nat.mul_le_mul_left _ ?_
    rw [Nat.mul_add, Nat.mul_one, show A + (j + 1) = (A + j) + 1 from rfl, Nat.add_mul (A + j) 1 B, Nat.one_mul]
    exact Nat.add_le_add_left hB _
  have e0 : N' * A * B ≤ M * (A + (j + 1)) * B := by
    rw [Nat.mul_right_comm N' A B, Nat.mul_assoc M]
    refine Nat.le_trans c2 ?_
    rw [Nat.mul_right_comm N (B + 1) A]
    refine Nat.le_trans c1 ?_
    rw [Nat.mul_assoc]
    exact c3
  exact Nat.le_of_mul_le_mul_right e0 hB0
theorem step_dn_ {N N' M A B j : Nat} (b : M * (A - j) ≤ N * A) (h2 : N * (B - 1) ≤ N' * B) (hj : j + 1 ≤ A) (hB : A ≤ B) (hB0 : 0 < B) : M * (A - (j + 1)) ≤ N' * A := by
  have c1 : M * (A - j) * (B - 1) ≤ N * A * (B - 1) := Nat.mul_le_mul_right _ b
  have c2 : N * (B - 1) * A ≤ N' * B * A := Nat.mul_le_mul_right _ h2
  have c3 : M * ((A - (j + 1)) * B) ≤ M * ((A - j) * (B - 1)) := by
    refine Nat.mul_le_mul_left _ ?_
    obtain ⟨k, hk⟩ := Nat.exists_eq_add_of_le hj
    obtain ⟨B', rfl⟩ := Nat.exists_eq_add_of_le hB0
    rw [show A - (j + 1) = k by omega, show A - j = k + 1 by omega, show (0 + 1 + B' : Nat) - 1 = B' by omega, Nat.add_mul k 1 B', Nat.one_mul, Nat.mul_add k, Nat.mul_one]
    omega
  have e0 : M * (A - (j + 1)) * B ≤ N' * A * B := by
    rw [Nat.mul_right_comm N' A B, Nat.mul_assoc M]
    refine Nat.le_trans c3 ?_
    rw [← Nat.mul_assoc]
    refine Nat.le_trans c1 ?_
    rw [Nat.mul_right_comm N A]
    exact c2
  exact Nat.le_of_mul_le_mul_right e0 hB0

/-- A power of 2. -/
@[irreducible] def pw (n : Nat) : Nat := 2 ^ n
theorem pw_eq (n : Nat) : pw n = 2 ^ n := by unfold pw; rfl
theorem pw_add (a b : Nat) : pw (a + b) = pw a * pw b := by rw [pw_eq, pw_eq, pw_eq]; exact Nat.pow_add 2 a b
theorem pw_addl (a b : Nat) : pw (a + b) = 2 ^ a * pw b := by rw [pw_eq, pw_eq]; exact Nat.pow_add 2 a b
theorem pw_pos (n : Nat) : 0 < pw n := by rw [pw_eq]; exact Nat.two_pow_pos n
theorem pw_le {a b : Nat} (h : a ≤ b) : pw a ≤ pw b := by rw [pw_eq, pw_eq]; exact Nat.pow_le_pow_right (by decide) h
/-- 'm * 2^p', in units of 2^-1100. -/
def un (m : Nat) (p : Int) : Nat := m * pw (p + 1100).toNat

theorem un_zero (p : Int) : un 0 p = 0 := by simp [un]

/-- The word w stands for the number N * 2^-1100, zero or of a middling size. -/
def IsF (w N : Nat) : Prop := ∃ m p, double.read w = .number false m p ∧ N = un m p ∧ ((m = 0 ∧ -1100 ≤ p ∧ p ≤ 0) ∨ (m ≠ 0 ∧ m < 2 ^ 53 ∧ -100 ≤ p ∧ p ≤ 200))

theorem cut_gap {m d : Nat} (hd : d ≤ m.log2 + 2) : ∃ c, Toward.even.cut false m d = m / 2 ^ d + c ∧ c ≤ 1 := by
  unfold Toward.cut
  rw [Nat.min_eq_left hd, Nat.one_shiftLeft]
  refine ⟨_, rfl, ?_⟩
  exact Bool.toNat_le _

theorem cut_zero (m : Nat) : Toward.even.cut false m 0 = m := by
  unfold Toward.cut
  simp [Nat.mod_one]

theorem double_binade : double.binade = 2 ^ 52 := rfl
theorem double_least : double.leastPlace = -1074 := by decide
theorem double_inf : double.infRung = 2047 * 2 ^ 52 := by decide
theorem double_sign : double.signWeight = 2 ^ 63 := rfl

/-- What a rung reads as. -/
theorem read_rung {t k : Nat} (ht : t ≤ 2000) (h1 : 2 ^ 52 ≤ k) (h2 : k < 2 ^ 53) : double.read (t * 2 ^ 52 + k) = .number false k (-1074 + t) := by
  have e0 : t * 2 ^ 52 + k < 2 ^ 63 := by omega
  have e1 : (t * 2 ^ 52 + k) / 2 ^ 63 = 0 := Nat.div_eq_of_lt e0
  have e2 : (t * 2 ^ 52 + k) % 2 ^ 63 = t * 2 ^ 52 + k := Nat.mod_eq_of_lt e0
  have e3 : (t * 2 ^ 52 + k) % 2 ^ 52 = k - 2 ^ 52 := by omega
  have e4 : (t * 2 ^ 52 + k) / 2 ^ 52 = t + 1 := by omega
  unfold Format.read
  simp only [double_sign, double_binade, double_inf, double_least, e1, e2, e3, e4]
  rw [if_neg (by omega), if_pos (by omega)]
  simp
  omega

/-- Rounding: near. -/
theorem rnd {m : Nat} {p : Int} (hm : m ≠ 0) (h1 : -40 ≤ p + m.log2) (h2 : p + m.log2 ≤ 200) (hp : -1100 ≤ p) :
    ∃ k l, double.read (double.nearest false m p) = .number false k l ∧ k ≠ 0 ∧ k < 2 ^ 53 ∧ -100 ≤ l ∧ l ≤ 200 ∧ un k l * 2 ^ 52 ≤ un m p * (2 ^ 52 + 1) ∧ un m p * (2 ^ 52 - 1) ≤ un k l * 2 ^ 52 := by
  have hl1 : 2 ^ m.log2 ≤ m := Nat.log2_self_le hm
  have hl2 : m < 2 ^ (m.log2 + 1) := Nat.lt_log2_self
  generalize hL : m.log2 = L at *
  -- the kept digits
  have key : ∃ kept : Nat, Toward.even.cut false (m <<< (p - (p + L - 52)).toNat) ((p + L - 52) - p).toNat = kept ∧ 2 ^ 52 ≤ kept ∧ kept ≤ 2 ^ 53 ∧
      un kept (p + L - 52) * 2 ^ 52 ≤ un m p * (2 ^ 52 + 1) ∧ un m p * (2 ^ 52 - 1) ≤ un kept (p + L - 52) * 2 ^ 52 := by
    by_cases hc : 52 ≤ L
    · obtain ⟨d, rfl⟩ := Nat.exists_eq_add_of_le hc
      have e1 : (p - (p + ((52 + d : Nat) : Int) - 52)).toNat = 0 := by omega
      have e2 : ((p + ((52 + d : Nat) : Int) - 52) - p).toNat = d := by omega
      rw [e1, e2, Nat.shiftLeft_zero]
      obtain ⟨c, hc1, hc2⟩ := cut_gap (m := m) (d := d) (by omega)
      refine ⟨_, hc1, ?_⟩
      have hpos : 0 < 2 ^ d := Nat.two_pow_pos d
      have q1 : 2 ^ 52 ≤ m / 2 ^ d := by
        rw [Nat.le_div_iff_mul_le hpos, ← Nat.pow_add]
        exact hl1
      have q2 : m / 2 ^ d < 2 ^ 53 := by
        rw [Nat.div_lt_iff_lt_mul hpos, ← Nat.pow_add]
        rw [show 53 + d = 52 + d + 1 by omega]
        exact hl2
      have e3 : un (m / 2 ^ d + c) (p + ((52 + d : Nat) : Int) - 52) = ((m / 2 ^ d + c) * 2 ^ d) * pw (p + 1100).toNat := by
        unfold un
        rw [show (p + ((52 + d : Nat) : Int) - 52 + 1100).toNat = d + (p + 1100).toNat by omega, pw_addl, Nat.mul_assoc]
      have e4 : un m p = m * pw (p + 1100).toNat := rfl
      have q3 := Nat.div_add_mod m (2 ^ d)
      have q4 := Nat.mod_lt m hpos
      rw [e3, e4]
      generalize pw (p + 1100).toNat = X
      generalize hD : 2 ^ d = D at *
      generalize hq : m / D = q at *
      generalize hr : m % D = r at *
      have q5 : D * 2 ^ 52 ≤ m := by
        have : D * 2 ^ 52 ≤ D * q := Nat.mul_le_mul_left _ q1
        omega
      refine ⟨by omega, by omega, ?_, ?_⟩
      · have : (q + c) * D * 2 ^ 52 ≤ m * (2 ^ 52 + 1) := by
          refine up_ (D := D) ?_ q5
          have : c * D ≤ 1 * D := Nat.mul_le_mul_right _ hc2
          rw [Nat.add_mul, Nat.mul_comm q D]
          clear q5 q1 q2 hl1 hl2 hm
          omega
        have b := Nat.mul_le_mul_right X this
        calc (q + c) * D * X * 2 ^ 52 = (q + c) * D * 2 ^ 52 * X := by rw [Nat.mul_right_comm]
          _ ≤ m * (2 ^ 52 + 1) * X := b
          _ = m * X * (2 ^ 52 + 1) := by rw [Nat.mul_right_comm]
      · have : m * (2 ^ 52 - 1) ≤ (q + c) * D * 2 ^ 52 := by
          refine dn_ (D := D) ?_ q5
          rw [Nat.add_mul, Nat.mul_comm q D]
          clear q5 q1 q2 hl1 hl2 hm
          omega
        have b := Nat.mul_le_mul_right X this
        calc m * X * (2 ^ 52 - 1) = m * (2 ^ 52 - 1) * X := by rw [Nat.mul_right_comm]
          _ ≤ (q + c) * D * 2 ^ 52 * X := b
          _ = (q + c) * D * X * 2 ^ 52 := by rw [Nat.mul_right_comm]
    · obtain ⟨d, hd⟩ := Nat.exists_eq_add_of_le (show L ≤ 52 by omega)
      have e1 : (p - (p + (L : Int) - 52)).toNat = d := by omega
      have e2 : ((p + (L : Int) - 52) - p).toNat = 0 := by omega
      rw [e1, e2, cut_zero, Nat.shiftLeft_eq]
      refine ⟨_, rfl, ?_⟩
      have q1 : 2 ^ L * 2 ^ d = 2 ^ 52 := by rw [← Nat.pow_add, ← hd]
      have q2 : 2 ^ (L + 1) * 2 ^ d = 2 ^ 53 := by rw [← Nat.pow_add]; congr 1; omega
      have a1 := Nat.mul_le_mul_right (2 ^ d) hl1
      have a2 : m * 2 ^ d < 2 ^ (L + 1) * 2 ^ d := Nat.mul_lt_mul_of_pos_right hl2 (Nat.two_pow_pos d)
      have e3 : un (m * 2 ^ d) (p + (L : Int) - 52) = un m p := by
        unfold un
        rw [show (p + 1100).toNat = d + (p + (L : Int) - 52 + 1100).toNat by omega, pw_addl, Nat.mul_assoc]
      rw [e3]
      refine ⟨by omega, by omega, ?_, ?_⟩
      · exact Nat.mul_le_mul_left _ (by omega)
      · exact Nat.mul_le_mul_left _ (by omega)
  obtain ⟨kept, hk, k1, k2, k3, k4⟩ := key
  have hlast : max (p + (m.log2 : Int) - (double.fractionBits : Int)) double.leastPlace = p + L - 52 := by
    rw [double_least, hL]
    show max (p + (L : Int) - 52) (-1074) = _
    omega
  have hn : double.nearest false m p = (p + L - 52 + 1074).toNat * 2 ^ 52 + kept := by
    unfold Format.nearest
    rw [if_neg hm]
    simp only [hlast]
    simp only [hk, double_least, double_binade, double_inf]
    unfold Format.word
    simp only [Bool.false_eq_true, if_false]
    rw [show (p + (L : Int) - 52 - -1074) = p + L - 52 + 1074 by omega]
    refine Nat.min_eq_left (Nat.le_trans (Nat.add_le_add (Nat.mul_le_mul_right _ (show (p + (L : Int) - 52 + 1074).toNat ≤ 1222 by omega)) k2) (by decide))
  rw [hn]
  by_cases hlt : kept < 2 ^ 53
  · refine ⟨kept, _, read_rung (by omega) k1 hlt, by omega, hlt, by omega, by omega, ?_, ?_⟩
    · rw [show (-1074 + ((p + (L : Int) - 52 + 1074).toNat : Int)) = p + L - 52 by omega]; exact k3
    · rw [show (-1074 + ((p + (L : Int) - 52 + 1074).toNat : Int)) = p + L - 52 by omega]; exact k4
  · have e : kept = 2 ^ 53 := by omega
    subst e
    have e1 : (p + (L : Int) - 52 + 1074).toNat * 2 ^ 52 + 2 ^ 53 = ((p + (L : Int) - 52 + 1074).toNat + 1) * 2 ^ 52 + 2 ^ 52 := by omega
    have e2 : un (2 ^ 52) (-1074 + (((p + (L : Int) - 52 + 1074).toNat + 1 : Nat) : Int)) = un (2 ^ 53) (p + L - 52) := by
      unfold un
      rw [show (-1074 + (((p + (L : Int) - 52 + 1074).toNat + 1 : Nat) : Int) + 1100).toNat = 1 + (p + (L : Int) - 52 + 1100).toNat by omega, pw_addl, ← Nat.mul_assoc]
    rw [e1]
    refine ⟨2 ^ 52, _, read_rung (by omega) (by omega) (by omega), by omega, by omega, by omega, by omega, ?_, ?_⟩
    · rw [e2]; exact k3
    · rw [e2]; exact k4

/-- N is M up to j parts of 2^48. -/
def Cl (j N M : Nat) : Prop := N * 2 ^ 48 ≤ M * (2 ^ 48 + j) ∧ M * (2 ^ 48 - j) ≤ N * 2 ^ 48

theorem Cl.refl (M : Nat) : Cl 0 M M := ⟨Nat.le_refl _, Nat.le_refl _⟩
theorem Cl.mono {i j N M : Nat} (h : Cl i N M) (hij : i ≤ j) : Cl j N M :=
  ⟨Nat.le_trans h.1 (Nat.mul_le_mul_left _ (by omega)), Nat.le_trans (Nat.mul_le_mul_left _ (by omega)) h.2⟩
theorem Cl.add {j N M N' M' : Nat} (h : Cl j N M) (k : Cl j N' M') : Cl j (N + N') (M + M') :=
  ⟨by rw [Nat.add_mul, Nat.add_mul]; exact Nat.add_le_add h.1 k.1, by rw [Nat.add_mul, Nat.add_mul]; exact Nat.add_le_add h.2 k.2⟩
theorem Cl.mul {j N M : Nat} (h : Cl j N M) (c : Nat) : Cl j (N * c) (M * c) :=
  ⟨by rw [Nat.mul_right_comm, Nat.mul_right_comm M]; exact Nat.mul_le_mul_right _ h.1, by rw [Nat.mul_right_comm, Nat.mul_right_comm N]; exact Nat.mul_le_mul_right _ h.2⟩
/-- One more rounding. -/
theorem Cl.step {j N N' M : Nat} (h : Cl j N M) (hj : j ≤ 1000) (h1 : N' * 2 ^ 52 ≤ N * (2 ^ 52 + 1)) (h2 : N * (2 ^ 52 - 1) ≤ N' * 2 ^ 52) : Cl (j + 1) N' M :=
  ⟨step_up_ h.1 h1 (Nat.le_trans (Nat.add_le_add_left hj _) (by decide)) (by decide), step_dn_ h.2 h2 (Nat.le_trans (Nat.add_le_add_right hj 1) (by decide)) (by decide) (by decide)⟩

theorem Cl.trans1 {N M L : Nat} (h : Cl 1 N M) (k : Cl 1 M L) : Cl 3 N L := by
  obtain ⟨a, b⟩ := h
  obtain ⟨c, d⟩ := k
  unfold Cl
  have hT : 4 ≤ 2 ^ 48 := by decide
  generalize (2 : Nat) ^ 48 = T at *
  constructor
  · refine Nat.le_of_mul_le_mul_right (c := T) ?_ (by omega)
    have p1 := Nat.mul_le_mul_right T a
    have p2 := Nat.mul_le_mul_right (T + 1) c
    have p3 : L * ((T + 1) * (T + 1)) ≤ L * ((T + 3) * T) := by
      refine Nat.mul_le_mul_left _ ?_
      rw [Nat.mul_add, Nat.mul_one, Nat.add_mul, Nat.add_mul, Nat.one_mul]
      omega
    refine Nat.le_trans p1 ?_
    rw [Nat.mul_right_comm]
    refine Nat.le_trans p2 ?_
    rw [Nat.mul_assoc, Nat.mul_assoc]
    exact p3
  · refine Nat.le_of_mul_le_mul_right (c := T) ?_ (by omega)
    have p1 := Nat.mul_le_mul_right (T - 1) d
    have p2 := Nat.mul_le_mul_right T b
    have p3 : L * ((T - 3) * T) ≤ L * ((T - 1) * (T - 1)) := by
      refine Nat.mul_le_mul_left _ ?_
      obtain ⟨u, rfl⟩ := Nat.exists_eq_add_of_le (show 3 ≤ T by omega)
      rw [show 3 + u - 3 = u by omega, show 3 + u - 1 = u + 2 by omega, Nat.mul_add, Nat.add_mul, Nat.mul_add, Nat.mul_comm u 3]
      omega
    rw [Nat.mul_assoc]
    refine Nat.le_trans p3 ?_
    rw [← Nat.mul_assoc]
    refine Nat.le_trans p1 ?_
    rw [Nat.mul_right_comm]
    exact p2

/-- The unit. -/
def UU : Nat := pw 1100

theorem un_log {m : Nat} {p : Int} (hm : m ≠ 0) (hp : -1100 ≤ p) : pw (p + m.log2 + 1100).toNat ≤ un m p ∧ un m p < pw (p + m.log2 + 1101).toNat := by
  have hl1 : 2 ^ m.log2 ≤ m := Nat.log2_self_le hm
  have hl2 : m < 2 ^ (m.log2 + 1) := Nat.lt_log2_self
  unfold un
  rw [show (p + (m.log2 : Int) + 1100).toNat = m.log2 + (p + 1100).toNat by omega, show (p + (m.log2 : Int) + 1101).toNat = (m.log2 + 1) + (p + 1100).toNat by omega, pw_addl, pw_addl]
  exact ⟨Nat.mul_le_mul_right _ hl1, Nat.mul_lt_mul_of_pos_right hl2 (pw_pos _)⟩

/-- Of a middling size. -/
def Mid (N : Nat) : Prop := pw 1090 ≤ N ∧ N < pw 1290

theorem mid_log {m : Nat} {p : Int} (hm : m ≠ 0) (hp : -1100 ≤ p) (h : Mid (un m p)) : -40 ≤ p + m.log2 ∧ p + m.log2 ≤ 200 := by
  obtain ⟨a, b⟩ := un_log hm hp
  obtain ⟨c, d⟩ := h
  constructor
  · apply Classical.byContradiction
    intro hn
    have := pw_le (show (p + (m.log2 : Int) + 1101).toNat ≤ 1090 by omega)
    exact absurd (Nat.lt_of_lt_of_le b this) (Nat.not_lt.2 c)
  · apply Classical.byContradiction
    intro hn
    have := pw_le (show 1290 ≤ (p + (m.log2 : Int) + 1100).toNat by omega)
    exact absurd (Nat.lt_of_le_of_lt (Nat.le_trans this a) d) (Nat.lt_irrefl _)

theorem isF_write {m : Nat} {p : Int} {j M : Nat} (hm : m ≠ 0) (hmid : Mid (un m p)) (hp : -1100 ≤ p) (hc : Cl j (un m p) M) (hj : j ≤ 1000) :
    ∃ N, IsF (double.write (.number false m p)) N ∧ Cl (j + 1) N M := by
  obtain ⟨h1, h2⟩ := mid_log hm hp hmid
  obtain ⟨k, l, r, k0, k1, l1, l2, c1, c2⟩ := rnd hm h1 h2 hp
  exact ⟨_, ⟨k, l, r, rfl, .inr ⟨k0, k1, l1, l2⟩⟩, hc.step hj c1 c2⟩

theorem write_zero (p : Int) : double.write (.number false 0 p) = 0 := rfl
theorem isF_zero : IsF 0 0 := ⟨0, -1074, by decide, (un_zero _).symm, .inl ⟨rfl, by decide, by decide⟩⟩

/-- An integer. -/
theorem f_int {n : Nat} (h : n < 1000000000) : ∃ N, IsF (floatOfInt .f64 (n : Int)) N ∧ Cl 1 N (n * UU) := by
  have e : floatOfInt .f64 (n : Int) = double.write (.number false n 0) := by
    show double.write (.number (decide ((n : Int) < 0)) (n : Int).natAbs 0) = _
    rw [Int.natAbs_natCast]
    congr
  rw [e]
  by_cases h0 : n = 0
  · subst h0
    exact ⟨0, isF_zero, by simp [Cl]⟩
  · have e1 : un n 0 = n * UU := rfl
    refine isF_write (j := 0) h0 ?_ (by decide) (by rw [e1]; exact Cl.refl _) (by decide)
    rw [e1]
    refine ⟨Nat.le_trans (pw_le (show 1090 ≤ 1100 by decide)) (Nat.le_mul_of_pos_left _ (by omega)), ?_⟩
    have h2 : n * UU < 2 ^ 190 * UU := Nat.mul_lt_mul_of_pos_right (by omega) (pw_pos 1100)
    rwa [show 2 ^ 190 * UU = pw 1290 from (pw_addl 190 1100).symm] at h2

/-- The float of 1000000000. -/
def kB : Nat := 4741671816366391296
theorem read_kB : double.read kB = .number false 8388608000000000 (-23) := by decide +kernel

theorem pow_split (a : Int) (b : Int) (ha : -1100 ≤ a) (hb : -1100 ≤ b) (hab : -1100 ≤ a + b) : pw (a + 1100).toNat * pw (b + 1100).toNat = pw (a + b + 1100).toNat * UU := by
  unfold UU
  rw [← pw_add, ← pw_add]
  congr 1
  omega

theorem un_mul (m n : Nat) (p q : Int) (hp : -1100 ≤ p) (hq : -1100 ≤ q) (hpq : -1100 ≤ p + q) : un (m * n) (p + q) * UU = un m p * un n q := by
  unfold un
  rw [Nat.mul_assoc, ← pow_split p q hp hq hpq]
  rw [Nat.mul_mul_mul_comm]

theorem un_kB : un 8388608000000000 (-23) = 1000000000 * UU := by
  unfold un UU
  rw [show ((-23 : Int) + 1100).toNat = 1077 by decide, show pw 1100 = 2 ^ 23 * pw 1077 from pw_addl 23 1077, ← Nat.mul_assoc]

theorem UU_pos : 0 < UU := pw_pos _

def Mids (M : Nat) : Prop := pw 1095 ≤ M ∧ M < pw 1285
theorem mid_of_cl {j N M : Nat} (h : Cl j N M) (hj : j ≤ 1000) (hM : Mids M) : Mid N := by
  obtain ⟨a, b⟩ := h
  obtain ⟨c, d⟩ := hM
  have h1 : M * (2 ^ 48 + j) ≤ M * 2 ^ 49 := Nat.mul_le_mul_left _ (by omega)
  have h2 : M * 2 ^ 47 ≤ M * (2 ^ 48 - j) := Nat.mul_le_mul_left _ (by omega)
  have e1 : pw 1290 = 2 ^ 5 * pw 1285 := pw_addl 5 1285
  have e2 : pw 1095 = 2 ^ 5 * pw 1090 := pw_addl 5 1090
  unfold Mid
  generalize pw 1290 = X at *
  generalize pw 1285 = X' at *
  generalize pw 1095 = Y at *
  generalize pw 1090 = Y' at *
  omega

/-- Times 1000000000. -/
theorem f_mul {x N j M : Nat} (hx : IsF x N) (hc : Cl j N M) (hj : j ≤ 100) (hM : M = 0 ∨ Mids (M * 1000000000)) :
    ∃ r K, floatBits .mul .f64 x kB = some r ∧ IsF r K ∧ Cl (j + 1) K (M * 1000000000) := by
  obtain ⟨m, p, hr, rfl, hb⟩ := hx
  have e : floatBits .mul .f64 x kB = some (double.write (.number false (m * 8388608000000000) (p + -23))) := by
    show ((double.read x).product (double.read kB)).map double.write = _
    rw [hr, read_kB]
    rfl
  rw [e]
  by_cases hm : m = 0
  · subst hm
    rw [Nat.zero_mul, write_zero]
    refine ⟨_, 0, rfl, isF_zero, ?_⟩
    have h1 := hc.2
    rw [un_zero, Nat.zero_mul] at h1
    have hM0 : M = 0 := by
      rcases Nat.mul_eq_zero.1 (Nat.le_zero.1 h1) with h | h
      · exact h
      · omega
    subst hM0
    simp [Cl]
  · obtain ⟨hm', hm53, hp1, hp2⟩ : m ≠ 0 ∧ m < 2 ^ 53 ∧ -100 ≤ p ∧ p ≤ 200 := by
      rcases hb with hb | hb
      · exact absurd hb.1 hm
      · exact hb
    have e1 : un (m * 8388608000000000) (p + -23) = un m p * 1000000000 := by
      have := un_mul m 8388608000000000 p (-23) (by omega) (by decide) (by omega)
      rw [un_kB, ← Nat.mul_assoc] at this
      exact Nat.eq_of_mul_eq_mul_right UU_pos this
    have hc' : Cl j (un (m * 8388608000000000) (p + -23)) (M * 1000000000) := by rw [e1]; exact hc.mul _
    have hM0 : M ≠ 0 := by
      rintro rfl
      have := hc.1
      rw [Nat.zero_mul] at this
      have h2 : un m p = 0 := by
        rcases Nat.mul_eq_zero.1 (Nat.le_zero.1 this) with h | h
        · exact h
        · omega
      unfold un at h2
      rcases Nat.mul_eq_zero.1 h2 with h | h
      · exact hm h
      · exact absurd h (Nat.ne_of_gt (pw_pos _))
    rcases hM with hM | hM1
    · exact absurd hM hM0
    have hmid : Mid (un (m * 8388608000000000) (p + -23)) := mid_of_cl hc' (by omega) hM1
    obtain ⟨K, k1, k2⟩ := isF_write (Nat.mul_ne_zero hm (by decide)) hmid (by omega) hc' (by omega)
    exact ⟨_, K, rfl, k1, k2⟩

/-- The number and its place, of a word that is no zero. -/
theorem un_shift (m : Nat) (p : Int) (k : Nat) (hp : -1100 ≤ p - k) : un (m <<< k) (p - k) = un m p := by
  unfold un
  rw [Nat.shiftLeft_eq, Nat.mul_assoc, ← pw_addl]
  congr 2
  omega

/-- A sum. -/
theorem f_add {x y N M j A B : Nat} (hx : IsF x N) (hy : IsF y M) (hc : Cl j N A) (hd : Cl j M B) (hj : j ≤ 100) (hM : Mids (A + B)) :
    ∃ r K, floatBits .add .f64 x y = some r ∧ IsF r K ∧ Cl (j + 1) K (A + B) := by
  obtain ⟨m, p, hr, rfl, hb⟩ := hx
  obtain ⟨n, q, hs, rfl, hb'⟩ := hy
  have hp : -1100 ≤ p ∧ p ≤ 200 := by omega
  have hq : -1100 ≤ q ∧ q ≤ 200 := by omega
  obtain ⟨i, hi⟩ : ∃ i : Nat, p = min p q + i := ⟨(p - min p q).toNat, by omega⟩
  obtain ⟨k, hk⟩ : ∃ k : Nat, q = min p q + k := ⟨(q - min p q).toNat, by omega⟩
  have e1 : un (m <<< i) (min p q) = un m p := by
    have := un_shift m p i (by omega)
    rwa [show p - (i : Int) = min p q by omega] at this
  have e2 : un (n <<< k) (min p q) = un n q := by
    have := un_shift n q k (by omega)
    rwa [show q - (k : Int) = min p q by omega] at this
  have e3 : un (m <<< i + n <<< k) (min p q) = un m p + un n q := by
    rw [← e1, ← e2]; unfold un; rw [Nat.add_mul]
  have hcl := hc.add hd
  have hmid := mid_of_cl hcl (by omega) hM
  have ht : m <<< i + n <<< k ≠ 0 := by
    intro h0
    rw [h0, un_zero] at e3
    rw [← e3] at hmid
    exact absurd (Nat.lt_of_lt_of_le (pw_pos 1090) hmid.1) (Nat.lt_irrefl 0)
  have e : floatBits .add .f64 x y = some (double.write (.number false (m <<< i + n <<< k) (min p q))) := by
    show ((double.read x).sum (double.read y)).map double.write = _
    rw [hr, hs]
    unfold Datum.sum
    simp only [Option.map_some, signed, Bool.false_eq_true, if_false]
    rw [show (p - min p q).toNat = i by omega, show (q - min p q).toNat = k by omega]
    have h0 : ((m <<< i : Nat) : Int) + ((n <<< k : Nat) : Int) = ((m <<< i + n <<< k : Nat) : Int) := by omega
    rw [h0, Int.natAbs_natCast, if_neg (by omega)]
    congr
  rw [e]
  rw [← e3] at hcl hmid
  obtain ⟨K, k1, k2⟩ := isF_write ht hmid (by omega) hcl (by omega)
  exact ⟨_, K, rfl, k1, k2⟩

/-- A quotient of words that are no zeros. -/
theorem f_div {x y N M : Nat} (hx : IsF x N) (hy : IsF y M) (hN : N ≠ 0) (hM : M ≠ 0) (hmid : 2 * (N * UU / M) + 2 < pw 1290 ∧ Mid (N * UU / M / 2)) :
    ∃ r K, floatBits .quo .f64 x y = some r ∧ IsF r K ∧ Cl 3 (K * M) (N * UU) := by
  obtain ⟨m, p, hr, rfl, hb⟩ := hx
  obtain ⟨n, q, hs, rfl, hb'⟩ := hy
  have hm : m ≠ 0 := by rintro rfl; exact hN (un_zero _)
  have hn : n ≠ 0 := by rintro rfl; exact hM (un_zero _)
  obtain ⟨_, hm53, hp1, hp2⟩ : m ≠ 0 ∧ m < 2 ^ 53 ∧ -100 ≤ p ∧ p ≤ 200 := by omega
  obtain ⟨_, hn53, hq1, hq2⟩ : n ≠ 0 ∧ n < 2 ^ 53 ∧ -100 ≤ q ∧ q ≤ 200 := by omega
  have lm1 : 2 ^ m.log2 ≤ m := Nat.log2_self_le hm
  have lm2 : m.log2 < 53 := (Nat.log2_lt hm).2 hm53
  have ln2 : n.log2 < 53 := (Nat.log2_lt hn).2 hn53
  have ln3 : n < 2 ^ (n.log2 + 1) := Nat.lt_log2_self
  obtain ⟨more, hmore⟩ : ∃ more, more = 54 + n.log2 - m.log2 := ⟨_, rfl⟩
  obtain ⟨s, hs1, hs2⟩ : ∃ s : Nat, s = (m <<< more % n != 0).toNat ∧ s ≤ 1 := ⟨_, rfl, Bool.toNat_le _⟩
  have e : floatBits .quo .f64 x y = some (double.write (.number false (2 * (m <<< more / n) + s) (p - q - more - 1))) := by
    show ((double.read x).quotient (double.fractionBits + 2) (double.read y)).map double.write = _
    rw [hr, hs]
    unfold Datum.quotient
    simp only [if_neg hn, Option.map_some]
    rw [show double.fractionBits + 2 + n.log2 - m.log2 = more from hmore.symm, ← hs1]
    rfl
  rw [e]
  -- the dividend
  have hD : 2 ^ 53 * n ≤ m <<< more := by
    rw [Nat.shiftLeft_eq]
    have a1 : 2 ^ m.log2 * 2 ^ more ≤ m * 2 ^ more := Nat.mul_le_mul_right _ lm1
    rw [← Nat.pow_add, show m.log2 + more = 53 + (n.log2 + 1) by omega, Nat.pow_add] at a1
    have a2 := Nat.mul_le_mul_left (2 ^ 53) (Nat.le_of_lt ln3)
    omega
  have dv := Nat.div_add_mod (m <<< more) n
  have dm := Nat.mod_lt (m <<< more) (Nat.pos_of_ne_zero hn)
  have b1 : (2 * (m <<< more / n) + s) * n ≤ 2 * (m <<< more) + n := by
    rw [Nat.add_mul, Nat.mul_assoc, Nat.mul_comm _ n]
    have := Nat.mul_le_mul_right n hs2
    omega
  have b2 : 2 * (m <<< more) ≤ (2 * (m <<< more / n) + s) * n + 2 * n := by
    rw [Nat.add_mul, Nat.mul_assoc, Nat.mul_comm _ n]
    omega
  have b0 : 2 * (m <<< more / n) + s ≠ 0 := by
    have : 1 ≤ m <<< more / n := by
      rw [Nat.le_div_iff_mul_le (Nat.pos_of_ne_zero hn)]
      omega
    omega
  generalize hmag : 2 * (m <<< more / n) + s = mag at *
  -- in units
  have u1 : un mag (p - q - more - 1) * un n q = mag * n * (pw (p - more - 1 + 1100).toNat * UU) := by
    rw [← un_mul mag n _ q (by omega) (by omega) (by omega)]
    rw [show p - q - (more : Int) - 1 + q = p - more - 1 by omega]
    unfold un
    rw [Nat.mul_assoc]
  have u2 : un m p * UU = 2 * (m <<< more) * (pw (p - more - 1 + 1100).toNat * UU) := by
    have h3 : un m p = 2 * (m <<< more) * pw (p - more - 1 + 1100).toNat := by
      unfold un
      rw [Nat.shiftLeft_eq, show (p + 1100).toNat = more + 1 + (p - more - 1 + 1100).toNat by omega, pw_addl, Nat.pow_add]
      simp only [Nat.mul_assoc, Nat.mul_left_comm, Nat.pow_one]
    rw [h3, Nat.mul_assoc]
  generalize pw (p - more - 1 + 1100).toNat * UU = Z at u1 u2
  have hcl : Cl 1 (un mag (p - q - more - 1) * un n q) (un m p * UU) := by
    rw [u1, u2]
    refine Cl.mul ⟨?_, ?_⟩ Z
    · omega
    · omega
  have hmid' : Mid (un mag (p - q - more - 1)) := by
    have hMp : 0 < un n q := Nat.pos_of_ne_zero hM
    have c1 : un mag (p - q - more - 1) ≤ 2 * (un m p * UU / un n q) + 2 := by
      have := hcl.1
      have h3 : un mag (p - q - more - 1) * un n q ≤ 2 * (un m p * UU) := by omega
      have h4 : un mag (p - q - more - 1) ≤ 2 * (un m p * UU) / un n q := (Nat.le_div_iff_mul_le hMp).2 h3
      have h5 : 2 * (un m p * UU) / un n q < 2 * (un m p * UU / un n q) + 2 := by
        rw [Nat.div_lt_iff_lt_mul hMp]
        have := Nat.lt_mul_div_succ (un m p * UU) hMp
        rw [Nat.add_mul, Nat.mul_assoc, Nat.mul_comm _ (un n q)]
        rw [Nat.mul_add] at this
        omega
      omega
    have c2 : un m p * UU / un n q / 2 ≤ un mag (p - q - more - 1) := by
      have := hcl.2
      have h3 : un m p * UU ≤ 2 * (un mag (p - q - more - 1) * un n q) := by omega
      have h4 : un m p * UU / un n q ≤ 2 * un mag (p - q - more - 1) := by
        apply Nat.div_le_of_le_mul
        rw [Nat.mul_comm (un n q), Nat.mul_assoc]
        exact h3
      omega
    exact ⟨Nat.le_trans hmid.2.1 c2, Nat.lt_of_le_of_lt c1 hmid.1⟩
  obtain ⟨K, k1, k2⟩ := isF_write (j := 0) b0 hmid' (by omega) (Cl.refl _) (by decide)
  refine ⟨_, K, rfl, k1, ?_⟩
  have k3 := k2.mul (un n q)
  have k4 : Cl 1 (K * un n q) (un mag (p - q - more - 1) * un n q) := k3
  exact Cl.trans1 k4 hcl

/-- Cut to an integer. -/
theorem f_toInt {r K : Nat} (h : IsF r K) (hK : K / UU < 2 ^ 62) : floatToIntVal .f64 r .i64 = some ((K / UU : Nat) : Int) := by
  obtain ⟨m, p, hr, rfl, hb⟩ := h
  have e : (double.read r).toInt .zero = some ((un m p / UU : Nat) : Int) := by
    rw [hr]
    unfold Datum.toInt Datum.integral Toward.cut
    simp only [signed, Bool.false_eq_true, if_false, Bool.toNat_false, Nat.add_zero, Nat.shiftLeft_zero, Option.some.injEq]
    congr 1
    by_cases hp : 0 ≤ p
    · rw [show (-p).toNat = 0 by omega, Nat.zero_min, Nat.shiftLeft_zero, Nat.div_one, Nat.shiftLeft_eq]
      unfold un UU
      rw [show (p + 1100).toNat = p.toNat + 1100 by omega, pw_addl, ← Nat.mul_assoc, Nat.mul_div_cancel _ (pw_pos _)]
    · obtain ⟨d, hd⟩ : ∃ d : Nat, (d : Int) = -p := ⟨(-p).toNat, by omega⟩
      rw [show p.toNat = 0 by omega, Nat.shiftLeft_zero, show (-p).toNat = d by omega, Nat.one_shiftLeft]
      have hd2 : d ≤ 1100 := by omega
      have e1 : un m p / UU = m / 2 ^ d := by
        unfold un UU
        obtain ⟨k, hk⟩ := Nat.exists_eq_add_of_le hd2
        rw [show (p + 1100).toNat = k by omega, hk, pw_addl, Nat.mul_comm (2 ^ d), Nat.mul_comm m, Nat.mul_div_mul_left _ _ (pw_pos _)]
      rw [e1]
      by_cases hle : d ≤ m.log2 + 2
      · rw [Nat.min_eq_left hle]
      · rw [Nat.min_eq_right (by omega)]
        have h1 : m < 2 ^ (m.log2 + 1) := Nat.lt_log2_self
        have h2 := Nat.pow_le_pow_right (show 2 > 0 by decide) (show m.log2 + 1 ≤ m.log2 + 2 by omega)
        have h3 := Nat.pow_le_pow_right (show 2 > 0 by decide) (show m.log2 + 1 ≤ d by omega)
        rw [Nat.div_eq_of_lt (Nat.lt_of_lt_of_le h1 h2), Nat.div_eq_of_lt (Nat.lt_of_lt_of_le h1 h3)]
  unfold floatToIntVal
  have e' : (FloatKind.f64.decode r).toInt .zero = some ((un m p / UU : Nat) : Int) := e
  rw [e']
  have h1 : IntKind.i64.min = -9223372036854775808 := by decide
  have h2 : IntKind.i64.max = 9223372036854775807 := by decide
  simp only [h1, h2]
  generalize un m p / UU = z at *
  rw [if_pos (by omega)]

end Go.Proofs.YtnbefpfijaimjaaGreatDoor
/- The guess of a quotient's digit, by floats: it is off by at most 2. Plain facts; it speaks of no program. -/
namespace Go.Proofs.YtnbefpfijaimjaaGreatDoor
open Go Ieee
set_option maxRecDepth 20000

theorem mids_of {z : Nat} (h0 : 0 < z) (h1 : z < 1000000000000000000000000000000) : Mids (z * UU) := by
  unfold Mids UU
  constructor
  · exact Nat.le_trans (pw_le (show 1095 ≤ 1100 by decide)) (Nat.le_mul_of_pos_left _ h0)
  · have h2 : z * pw 1100 < 2 ^ 180 * pw 1100 := Nat.mul_lt_mul_of_pos_right (Nat.lt_of_lt_of_le h1 (by decide)) (pw_pos _)
    have h3 : (2 : Nat) ^ 180 * pw 1100 = pw 1280 := (pw_addl 180 1100).symm
    have h4 := pw_le (show 1280 ≤ 1285 by decide)
    omega
/-- Upper half of the estimate. -/
theorem up_est {g q D T P : Nat} (hg : g * D * ((P - 3) * P) ≤ T * ((P + 5) * (P + 3))) (hT : T < (q + 1) * (D + 1)) (hq : q + 1 ≤ 1000000000) (hD : 1000000000 ≤ D) (hP : 100000000000 ≤ P) : g ≤ q + 2 := by
  have h1 : (q + 1) * (D + 1) ≤ (q + 2) * D := by
    rw [Nat.mul_add, Nat.mul_one, show q + 2 = (q + 1) + 1 from rfl, Nat.add_mul (q + 1) 1 D, Nat.one_mul]
    omega
  have h2 : T ≤ (q + 2) * D := by omega
  have h3 : g * ((P - 3) * P) * D ≤ (q + 2) * ((P + 5) * (P + 3)) * D := by
    have := Nat.mul_le_mul_right ((P + 5) * (P + 3)) h2
    calc g * ((P - 3) * P) * D = g * D * ((P - 3) * P) := by rw [Nat.mul_right_comm]
      _ ≤ T * ((P + 5) * (P + 3)) := hg
      _ ≤ (q + 2) * D * ((P + 5) * (P + 3)) := this
      _ = _ := by rw [Nat.mul_right_comm]
  have h4 : g * ((P - 3) * P) ≤ (q + 2) * ((P + 5) * (P + 3)) := Nat.le_of_mul_le_mul_right h3 (by omega)
  apply Classical.byContradiction
  intro hn
  have h5 : (q + 3) * ((P - 3) * P) ≤ g * ((P - 3) * P) := Nat.mul_le_mul_right _ (by omega)
  obtain ⟨u, hu⟩ := Nat.exists_eq_add_of_le (show 3 ≤ P by omega)
  -- (q + 3) (P - 3) P against (q + 2) (P + 5) (P + 3)
  have e1 : (P - 3) * P = u * P := by rw [show P - 3 = u by omega]
  have e2 : (P + 5) * (P + 3) = u * P + (11 * P + 15) := by
    rw [hu]
    simp only [Nat.add_mul, Nat.mul_add]
    omega
  rw [e1] at h4 h5
  rw [e2, Nat.mul_add] at h4
  have h6 : (q + 2) * (11 * P + 15) < u * P := by
    have a1 : (q + 2) * (11 * P + 15) ≤ 1000000001 * (11 * P + 15) := Nat.mul_le_mul_right _ (by omega)
    have a2 : 99999999997 * P ≤ u * P := Nat.mul_le_mul_right _ (by omega)
    omega
  rw [show q + 3 = (q + 2) + 1 from rfl, Nat.add_mul, Nat.one_mul] at h5
  omega
/-- Lower half. -/
theorem dn_est {g q D T P : Nat} (hg : T * ((P - 5) * (P - 3)) ≤ (g + 1) * D * ((P + 3) * P)) (hT : q * D ≤ T) (hq : q ≤ 1000000000) (hD : 0 < D) (hP : 100000000000 ≤ P) : q ≤ g + 2 := by
  have h3 : q * ((P - 5) * (P - 3)) * D ≤ (g + 1) * ((P + 3) * P) * D := by
    have := Nat.mul_le_mul_right ((P - 5) * (P - 3)) hT
    calc q * ((P - 5) * (P - 3)) * D = q * D * ((P - 5) * (P - 3)) := by rw [Nat.mul_right_comm]
      _ ≤ T * ((P - 5) * (P - 3)) := this
      _ ≤ (g + 1) * D * ((P + 3) * P) := hg
      _ = _ := by rw [Nat.mul_right_comm]
  have h4 : q * ((P - 5) * (P - 3)) ≤ (g + 1) * ((P + 3) * P) := Nat.le_of_mul_le_mul_right h3 hD
  apply Classical.byContradiction
  intro hn
  obtain ⟨u, hu⟩ := Nat.exists_eq_add_of_le (show 5 ≤ P by omega)
  have e1 : (P - 5) * (P - 3) + 11 * P = (P + 3) * P + 15 := by
    rw [show P - 5 = u by omega, show P - 3 = u + 2 by omega, hu]
    simp only [Nat.add_mul, Nat.mul_add]
    omega
  have h5 : (g + 3) * ((P + 3) * P) ≤ q * ((P + 3) * P) := Nat.mul_le_mul_right _ (by omega)
  have h6 : q * ((P + 3) * P) ≤ q * ((P - 5) * (P - 3)) + q * (11 * P) := by
    rw [← Nat.mul_add]
    exact Nat.mul_le_mul_left _ (by omega)
  have h7 : q * (11 * P) < (P + 3) * P := by
    have a1 : q * (11 * P) ≤ 1000000000 * (11 * P) := Nat.mul_le_mul_right _ hq
    have a2 : 100000000000 * P ≤ (P + 3) * P := Nat.mul_le_mul_right _ (by omega)
    omega
  rw [show g + 3 = (g + 1) + 2 from rfl, Nat.add_mul] at h5
  omega
theorem half_lo {Y N P j : Nat} (hj : 2 * j ≤ P) (h0 : 0 < P) (h : Y * (P - j) ≤ N * P) : Y ≤ 2 * N := by
  refine Nat.le_of_mul_le_mul_right (c := P) ?_ h0
  have h1 : Y * P ≤ 2 * (Y * (P - j)) := by
    rw [Nat.mul_left_comm]
    exact Nat.mul_le_mul_left _ (by omega)
  rw [Nat.mul_assoc 2]
  omega
theorem half_hi {Y N P j : Nat} (hj : j ≤ P) (h0 : 0 < P) (h : N * P ≤ Y * (P + j)) : N ≤ 2 * Y := by
  refine Nat.le_of_mul_le_mul_right (c := P) ?_ h0
  have h1 : Y * (P + j) ≤ 2 * (Y * P) := by
    rw [Nat.mul_left_comm]
    exact Nat.mul_le_mul_left _ (by omega)
  rw [Nat.mul_assoc 2]
  omega
theorem mz_ (z : Nat) (hz : z < 100000000000000000000) : z * UU = 0 ∨ Mids (z * UU * 1000000000) := by
  by_cases h0 : z = 0
  · left; rw [h0, Nat.zero_mul]
  · right
    rw [Nat.mul_right_comm]
    exact mids_of (by omega) (by omega)
theorem guess_ok {A2 A1 A0 B1 B0 q T D : Nat} (a2 : A2 < 1000000000) (a1 : A1 < 1000000000) (a0 : A0 < 1000000000) (b1 : B1 < 1000000000) (b0 : B0 < 1000000000) (hb : 0 < B1)
    (hT : T = A2 * 1000000000 * 1000000000 + A1 * 1000000000 + A0) (hD : D = B1 * 1000000000 + B0) (hTD : D ≤ T) (hup : T < (q + 1) * (D + 1)) (hdn : q * D ≤ T) (hq : q < 1000000000) :
    ∃ y2 z2 y1 s1 t v1 d r : Nat, ∃ g : Nat, floatBits .mul .f64 (floatOfInt .f64 (A2 : Int)) kB = some y2 ∧ floatBits .mul .f64 y2 kB = some z2 ∧ floatBits .mul .f64 (floatOfInt .f64 (A1 : Int)) kB = some y1 ∧ floatBits .add .f64 z2 y1 = some s1 ∧
      floatBits .add .f64 s1 (floatOfInt .f64 (A0 : Int)) = some t ∧ floatBits .mul .f64 (floatOfInt .f64 (B1 : Int)) kB = some v1 ∧ floatBits .add .f64 v1 (floatOfInt .f64 (B0 : Int)) = some d ∧ floatBits .quo .f64 t d = some r ∧
      floatToIntVal .f64 r .i64 = some (g : Int) ∧ g ≤ q + 2 ∧ q ≤ g + 2 := by
  have x1 : A2 < 100000000000000000000 := by omega
  have x2 : A2 * 1000000000 < 100000000000000000000 := by omega
  have x3 : A1 < 100000000000000000000 := by omega
  have x4 : B1 < 100000000000000000000 := by omega
  have x5 : 0 < A2 * 1000000000 * 1000000000 + A1 * 1000000000 := by omega
  have x7 : 0 < T := by omega
  have x8 : T < 1000000000000000000000000000000 := by omega
  have x6 : A2 * 1000000000 * 1000000000 + A1 * 1000000000 < 1000000000000000000000000000000 := Nat.lt_of_le_of_lt (by rw [hT]; exact Nat.le_add_right _ _) x8
  have x9 : 0 < D := by omega
  have x10 : D < 1000000000000000000000000000000 := by omega
  have hD1 : 1000000000 ≤ D := by omega
  have X56 := mids_of x5 x6
  have X78 := mids_of x7 x8
  have X910 := mids_of x9 x10
  have hTb : T < 1237940039285380274899124224 := by omega
  have mulU : ∀ z : Nat, z * UU * 1000000000 = z * 1000000000 * UU := fun z => Nat.mul_right_comm _ _ _
  obtain ⟨n2, i2, c2⟩ := f_int a2
  obtain ⟨n1, i1, c1⟩ := f_int a1
  obtain ⟨n0, i0, c0⟩ := f_int a0
  obtain ⟨m1, j1, k1⟩ := f_int b1
  obtain ⟨m0, j0, k0⟩ := f_int b0
  obtain ⟨y2, Y2, e1, f1, g1⟩ := f_mul i2 c2 (by decide) (mz_ A2 x1)
  rw [mulU] at g1
  obtain ⟨z2, Z2, e2, f2, g2⟩ := f_mul f1 g1 (by decide) (mz_ (A2 * 1000000000) x2)
  rw [mulU] at g2
  obtain ⟨y1, Y1, e3, f3, g3⟩ := f_mul i1 c1 (by decide) (mz_ A1 x3)
  rw [mulU] at g3
  obtain ⟨s1, S1, e4, f4, g4⟩ := f_add f2 f3 g2 (g3.mono (by decide)) (by decide) (by rw [← Nat.add_mul]; exact X56)
  rw [← Nat.add_mul] at g4
  obtain ⟨t, TT, e5, f5, g5⟩ := f_add f4 i0 g4 (c0.mono (by decide)) (by decide) (by rw [← Nat.add_mul, ← hT]; exact X78)
  rw [← Nat.add_mul, ← hT] at g5
  obtain ⟨v1, V1, e6, f6, g6⟩ := f_mul j1 k1 (by decide) (mz_ B1 x4)
  rw [mulU] at g6
  obtain ⟨d, DD, e7, f7, g7⟩ := f_add f6 j0 g6 (k0.mono (by decide)) (by decide) (by rw [← Nat.add_mul, ← hD]; exact X910)
  rw [← Nat.add_mul, ← hD] at g7
  clear i2 i1 i0 j1 j0 c2 c1 c0 k1 k0 f1 f2 f3 f4 f6 g1 g2 g3 g4 g6 mulU x1 x2 x3 x4 x5 x6 x7 x8 x10 hT hD a2 a1 a0 b1 b0
  have hU := UU_pos
  have hP : 100000000000 ≤ 2 ^ 48 := by decide
  obtain ⟨p1, p2⟩ := g5
  obtain ⟨q1, q2⟩ := g7
  generalize hPP : (2 : Nat) ^ 48 = P at *
  -- plain bounds
  have r1 : T * UU ≤ 2 * TT := half_lo (by omega) (by omega) p2
  have r2 : TT ≤ 2 * (T * UU) := half_hi (by omega) (by omega) p1
  have r3 : D * UU ≤ 2 * DD := half_lo (by omega) (by omega) q2
  have r4 : DD ≤ 2 * (D * UU) := half_hi (by omega) (by omega) q1
  have hDU : UU ≤ D * UU := Nat.le_mul_of_pos_left _ (by omega)
  have hTU : D * UU ≤ T * UU := Nat.mul_le_mul_right _ hTD
  have hDD : 0 < DD := by omega
  have hTT : 0 < TT := by omega
  have hmid : 2 * (TT * UU / DD) + 2 < pw 1290 ∧ Mid (TT * UU / DD / 2) := by
    have u1 : TT * UU / DD ≤ 4 * T * UU := by
      refine Nat.div_le_of_le_mul ?_
      have a1 : TT * UU ≤ 2 * (T * UU) * (2 * DD) := Nat.mul_le_mul r2 (by omega)
      have a2 : 2 * (T * UU) * (2 * DD) = DD * (4 * T * UU) := by
        rw [Nat.mul_comm DD, Nat.mul_mul_mul_comm, Nat.mul_assoc 4, Nat.mul_assoc 4]
      omega
    have u2 : UU ≤ 4 * (TT * UU / DD) + 4 := by
      have a1 : DD ≤ 4 * TT := by omega
      have a2 : DD * UU ≤ 4 * (TT * UU) := by rw [← Nat.mul_assoc]; exact Nat.mul_le_mul_right _ a1
      have a3 := Nat.lt_mul_div_succ (TT * UU) hDD
      have a4 : 4 * (TT * UU) < DD * (4 * (TT * UU / DD + 1)) := by
        rw [show DD * (4 * (TT * UU / DD + 1)) = 4 * (DD * (TT * UU / DD + 1)) from Nat.mul_left_comm _ _ _]
        exact Nat.mul_lt_mul_of_pos_left a3 (by decide)
      have a5 : DD * UU < DD * (4 * (TT * UU / DD + 1)) := Nat.lt_of_le_of_lt a2 a4
      have := Nat.lt_of_mul_lt_mul_left a5
      omega
    have v1 : T * UU < 1237940039285380274899124224 * UU := Nat.mul_lt_mul_of_pos_right hTb hU
    have v2 : 1237940039285380274899124224 * UU = pw 1190 := by
      rw [show pw 1190 = 2 ^ 30 * pw 1160 from pw_addl 30 1160, show pw 1160 = 2 ^ 30 * pw 1130 from pw_addl 30 1130, show pw 1130 = 2 ^ 30 * UU from pw_addl 30 1100]
      omega
    have v3 : pw 1290 = 2 ^ 100 * pw 1190 := pw_addl 100 1190
    have v4 : UU = 2 ^ 10 * pw 1090 := pw_addl 10 1090
    have v5 := pw_pos 1090
    have v6 := pw_pos 1190
    rw [Nat.mul_assoc] at u1
    generalize TT * UU / DD = X at *
    generalize T * UU = Y at *
    refine ⟨by omega, ?_, ?_⟩
    · omega
    · omega
  obtain ⟨r, K, e8, f8, g8⟩ := f_div f5 f7 (by omega) (by omega) hmid
  obtain ⟨w1, w2⟩ := g8
  rw [hPP] at w1 w2
  -- the quotient
  have G1 : K * D * ((P - 3) * P) ≤ T * UU * ((P + 5) * (P + 3)) := by
    refine Nat.le_of_mul_le_mul_right (c := UU) ?_ hU
    have x1 : K * (D * UU * (P - 3)) ≤ K * (DD * P) := Nat.mul_le_mul_left _ q2
    have x2 : K * (D * UU * (P - 3)) * P ≤ TT * UU * (P + 3) * P := by
      refine Nat.mul_le_mul_right _ (Nat.le_trans x1 ?_)
      rw [← Nat.mul_assoc]
      exact w1
    have x3 : TT * P * (UU * (P + 3)) ≤ T * UU * (P + 5) * (UU * (P + 3)) := Nat.mul_le_mul_right _ p1
    calc K * D * ((P - 3) * P) * UU = K * (D * UU * (P - 3)) * P := by ac_rfl
      _ ≤ TT * UU * (P + 3) * P := x2
      _ = TT * P * (UU * (P + 3)) := by ac_rfl
      _ ≤ T * UU * (P + 5) * (UU * (P + 3)) := x3
      _ = T * UU * ((P + 5) * (P + 3)) * UU := by ac_rfl
  have G2 : T * UU * ((P - 5) * (P - 3)) ≤ K * D * ((P + 3) * P) := by
    refine Nat.le_of_mul_le_mul_right (c := UU) ?_ hU
    have x1 : T * UU * (P - 5) * (UU * (P - 3)) ≤ TT * P * (UU * (P - 3)) := Nat.mul_le_mul_right _ p2
    have x2 : TT * UU * (P - 3) * P ≤ K * DD * P * P := Nat.mul_le_mul_right _ w2
    have x3 : K * (DD * P) * P ≤ K * (D * UU * (P + 3)) * P := Nat.mul_le_mul_right _ (Nat.mul_le_mul_left _ q1)
    calc T * UU * ((P - 5) * (P - 3)) * UU = T * UU * (P - 5) * (UU * (P - 3)) := by ac_rfl
      _ ≤ TT * P * (UU * (P - 3)) := x1
      _ = TT * UU * (P - 3) * P := by ac_rfl
      _ ≤ K * DD * P * P := x2
      _ = K * (DD * P) * P := by ac_rfl
      _ ≤ K * (D * UU * (P + 3)) * P := x3
      _ = K * D * ((P + 3) * P) * UU := by ac_rfl
  have hg1 : K / UU * UU ≤ K := Nat.div_mul_le_self _ _
  have hg2 : K < (K / UU + 1) * UU := by
    have := Nat.lt_mul_div_succ K hU
    rw [Nat.mul_comm]
    exact this
  have up : K / UU ≤ q + 2 := by
    refine up_est (D := D) (T := T) (P := P) ?_ hup (by omega) hD1 (by omega)
    refine Nat.le_of_mul_le_mul_right (c := UU) ?_ hU
    have := Nat.mul_le_mul_right (D * ((P - 3) * P)) hg1
    calc K / UU * D * ((P - 3) * P) * UU = K / UU * UU * (D * ((P - 3) * P)) := by ac_rfl
      _ ≤ K * (D * ((P - 3) * P)) := this
      _ = K * D * ((P - 3) * P) := by rw [Nat.mul_assoc]
      _ ≤ T * UU * ((P + 5) * (P + 3)) := G1
      _ = T * ((P + 5) * (P + 3)) * UU := by rw [Nat.mul_right_comm]
  have dn : q ≤ K / UU + 2 := by
    refine dn_est (D := D) (T := T) (P := P) ?_ hdn (by omega) (by omega) (by omega)
    refine Nat.le_of_mul_le_mul_right (c := UU) ?_ hU
    have := Nat.mul_le_mul_right (D * ((P + 3) * P)) (Nat.le_of_lt hg2)
    calc T * ((P - 5) * (P - 3)) * UU = T * UU * ((P - 5) * (P - 3)) := by rw [Nat.mul_right_comm]
      _ ≤ K * D * ((P + 3) * P) := G2
      _ = K * (D * ((P + 3) * P)) := by rw [Nat.mul_assoc]
      _ ≤ (K / UU + 1) * UU * (D * ((P + 3) * P)) := this
      _ = (K / UU + 1) * D * ((P + 3) * P) * UU := by ac_rfl
  exact ⟨y2, z2, y1, s1, t, v1, d, r, K / UU, e1, e2, e3, e4, e5, e6, e7, e8, f_toInt f8 (by omega), up, dn⟩
end Go.Proofs.YtnbefpfijaimjaaGreatDoor
