/- The guess of a quotient's digit, by floats: it is off by at most 2. Plain facts; it speaks of no program. -/
import Derived.Test.YtkhcblheekfdmaaFlo
namespace Go.Proofs.Ytkhcblheekfdmaa
open Go Ieee
set_option maxRecDepth 20000

theorem mids_of {z : Nat} (h0 : 0 < z) (h1 : z < 1000000000000000000000000000000) : Mids (z * UU) := by
  unfold Mids UU
  constructor
  · exact Nat.le_trans (pw_le (show 1095 ≤ 1100 by decide)) (Nat.le_mul_of_pos_left _ h0)
  · have h2 : z * pw 1100 < 2 ^ 180 * pw 1100 := Nat.mul_lt_mul_of_pos_right (Nat.lt_of_lt_of_le h1 (by decide)) (pw_pos _)
    have h3 : (2 : Nat) ^ 180 * pw 1100 = pw 1280 := (pw_addl 180 1100).symm
    have h4 := pw_le (show 1280 ≤ 1285 by decide)
    omega
/-- Upper half of the estimate. -/
theorem up_est {g q D T P : Nat} (hg : g * D * ((P - 3) * P) ≤ T * ((P + 5) * (P + 3))) (hT : T < (q + 1) * (D + 1)) (hq : q + 1 ≤ 1000000000) (hD : 1000000000 ≤ D) (hP : 100000000000 ≤ P) : g ≤ q + 2 := by
  have h1 : (q + 1) * (D + 1) ≤ (q + 2) * D := by
    rw [Nat.mul_add, Nat.mul_one, show q + 2 = (q + 1) + 1 from rfl, Nat.add_mul (q + 1) 1 D, Nat.one_mul]
    omega
  have h2 : T ≤ (q + 2) * D := by omega
  have h3 : g * ((P - 3) * P) * D ≤ (q + 2) * ((P + 5) * (P + 3)) * D := by
    have := Nat.mul_le_mul_right ((P + 5) * (P + 3)) h2
    calc g * ((P - 3) * P) * D = g * D * ((P - 3) * P) := by rw [Nat.mul_right_comm]
      _ ≤ T * ((P + 5) * (P + 3)) := hg
      _ ≤ (q + 2) * D * ((P + 5) * (P + 3)) := this
      _ = _ := by rw [Nat.mul_right_comm]
  have h4 : g * ((P - 3) * P) ≤ (q + 2) * ((P + 5) * (P + 3)) := Nat.le_of_mul_le_mul_right h3 (by omega)
  apply Classical.byContradiction
  intro hn
  have h5 : (q + 3) * ((P - 3) * P) ≤ g * ((P - 3) * P) := Nat.mul_le_mul_right _ (by omega)
  obtain ⟨u, hu⟩ := Nat.exists_eq_add_of_le (show 3 ≤ P by omega)
  -- (q + 3) (P - 3) P against (q + 2) (P + 5) (P + 3)
  have e1 : (P - 3) * P = u * P := by rw [show P - 3 = u by omega]
  have e2 : (P + 5) * (P + 3) = u * P + (11 * P + 15) := by
    rw [hu]
    simp only [Nat.add_mul, Nat.mul_add]
    omega
  rw [e1] at h4 h5
  rw [e2, Nat.mul_add] at h4
  have h6 : (q + 2) * (11 * P + 15) < u * P := by
    have a1 : (q + 2) * (11 * P + 15) ≤ 1000000001 * (11 * P + 15) := Nat.mul_le_mul_right _ (by omega)
    have a2 : 99999999997 * P ≤ u * P := Nat.mul_le_mul_right _ (by omega)
    omega
  rw [show q + 3 = (q + 2) + 1 from rfl, Nat.add_mul, Nat.one_mul] at h5
  omega
/-- Lower half. -/
theorem dn_est {g q D T P : Nat} (hg : T * ((P - 5) * (P - 3)) ≤ (g + 1) * D * ((P + 3) * P)) (hT : q * D ≤ T) (hq : q ≤ 1000000000) (hD : 0 < D) (hP : 100000000000 ≤ P) : q ≤ g + 2 := by
  have h3 : q * ((P - 5) * (P - 3)) * D ≤ (g + 1) * ((P + 3) * P) * D := by
    have := Nat.mul_le_mul_right ((P - 5) * (P - 3)) hT
    calc q * ((P - 5) * (P - 3)) * D = q * D * ((P - 5) * (P - 3)) := by rw [Nat.mul_right_comm]
      _ ≤ T * ((P - 5) * (P - 3)) := this
      _ ≤ (g + 1) * D * ((P + 3) * P) := hg
      _ = _ := by rw [Nat.mul_right_comm]
  have h4 : q * ((P - 5) * (P - 3)) ≤ (g + 1) * ((P + 3) * P) := Nat.le_of_mul_le_mul_right h3 hD
  apply Classical.byContradiction
  intro hn
  obtain ⟨u, hu⟩ := Nat.exists_eq_add_of_le (show 5 ≤ P by omega)
  have e1 : (P - 5) * (P - 3) + 11 * P = (P + 3) * P + 15 := by
    rw [show P - 5 = u by omega, show P - 3 = u + 2 by omega, hu]
    simp only [Nat.add_mul, Nat.mul_add]
    omega
  have h5 : (g + 3) * ((P + 3) * P) ≤ q * ((P + 3) * P) := Nat.mul_le_mul_right _ (by omega)
  have h6 : q * ((P + 3) * P) ≤ q * ((P - 5) * (P - 3)) + q * (11 * P) := by
    rw [← Nat.mul_add]
    exact Nat.mul_le_mul_left _ (by omega)
  have h7 : q * (11 * P) < (P + 3) * P := by
    have a1 : q * (11 * P) ≤ 1000000000 * (11 * P) := Nat.mul_le_mul_right _ hq
    have a2 : 100000000000 * P ≤ (P + 3) * P := Nat.mul_le_mul_right _ (by omega)
    omega
  rw [show g + 3 = (g + 1) + 2 from rfl, Nat.add_mul] at h5
  omega
theorem half_lo {Y N P j : Nat} (hj : 2 * j ≤ P) (h0 : 0 < P) (h : Y * (P - j) ≤ N * P) : Y ≤ 2 * N := by
  refine Nat.le_of_mul_le_mul_right (c := P) ?_ h0
  have h1 : Y * P ≤ 2 * (Y * (P - j)) := by
    rw [Nat.mul_left_comm]
    exact Nat.mul_le_mul_left _ (by omega)
  rw [Nat.mul_assoc 2]
  omega
theorem half_hi {Y N P j : Nat} (hj : j ≤ P) (h0 : 0 < P) (h : N * P ≤ Y * (P + j)) : N ≤ 2 * Y := by
  refine Nat.le_of_mul_le_mul_right (c := P) ?_ h0
  have h1 : Y * (P + j) ≤ 2 * (Y * P) := by
    rw [Nat.mul_left_comm]
    exact Nat.mul_le_mul_left _ (by omega)
  rw [Nat.mul_assoc 2]
  omega
theorem mz_ (z : Nat) (hz : z < 100000000000000000000) : z * UU = 0 ∨ Mids (z * UU * 1000000000) := by
  by_cases h0 : z = 0
  · left; rw [h0, Nat.zero_mul]
  · right
    rw [Nat.mul_right_comm]
    exact mids_of (by omega) (by omega)
theorem guess_ok {A2 A1 A0 B1 B0 q T D : Nat} (a2 : A2 < 1000000000) (a1 : A1 < 1000000000) (a0 : A0 < 1000000000) (b1 : B1 < 1000000000) (b0 : B0 < 1000000000) (hb : 0 < B1)
    (hT : T = A2 * 1000000000 * 1000000000 + A1 * 1000000000 + A0) (hD : D = B1 * 1000000000 + B0) (hTD : D ≤ T) (hup : T < (q + 1) * (D + 1)) (hdn : q * D ≤ T) (hq : q < 1000000000) :
    ∃ y2 z2 y1 s1 t v1 d r : Nat, ∃ g : Nat, floatBits .mul .f64 (floatOfInt .f64 (A2 : Int)) kB = some y2 ∧ floatBits .mul .f64 y2 kB = some z2 ∧ floatBits .mul .f64 (floatOfInt .f64 (A1 : Int)) kB = some y1 ∧ floatBits .add .f64 z2 y1 = some s1 ∧
      floatBits .add .f64 s1 (floatOfInt .f64 (A0 : Int)) = some t ∧ floatBits .mul .f64 (floatOfInt .f64 (B1 : Int)) kB = some v1 ∧ floatBits .add .f64 v1 (floatOfInt .f64 (B0 : Int)) = some d ∧ floatBits .quo .f64 t d = some r ∧
      floatToIntVal .f64 r .i64 = some (g : Int) ∧ g ≤ q + 2 ∧ q ≤ g + 2 := by
  have x1 : A2 < 100000000000000000000 := by omega
  have x2 : A2 * 1000000000 < 100000000000000000000 := by omega
  have x3 : A1 < 100000000000000000000 := by omega
  have x4 : B1 < 100000000000000000000 := by omega
  have x5 : 0 < A2 * 1000000000 * 1000000000 + A1 * 1000000000 := by omega
  have x7 : 0 < T := by omega
  have x8 : T < 1000000000000000000000000000000 := by omega
  have x6 : A2 * 1000000000 * 1000000000 + A1 * 1000000000 < 1000000000000000000000000000000 := Nat.lt_of_le_of_lt (by rw [hT]; exact Nat.le_add_right _ _) x8
  have x9 : 0 < D := by omega
  have x10 : D < 1000000000000000000000000000000 := by omega
  have hD1 : 1000000000 ≤ D := by omega
  have X56 := mids_of x5 x6
  have X78 := mids_of x7 x8
  have X910 := mids_of x9 x10
  have hTb : T < 1237940039285380274899124224 := by omega
  have mulU : ∀ z : Nat, z * UU * 1000000000 = z * 1000000000 * UU := fun z => Nat.mul_right_comm _ _ _
  obtain ⟨n2, i2, c2⟩ := f_int a2
  obtain ⟨n1, i1, c1⟩ := f_int a1
  obtain ⟨n0, i0, c0⟩ := f_int a0
  obtain ⟨m1, j1, k1⟩ := f_int b1
  obtain ⟨m0, j0, k0⟩ := f_int b0
  obtain ⟨y2, Y2, e1, f1, g1⟩ := f_mul i2 c2 (by decide) (mz_ A2 x1)
  rw [mulU] at g1
  obtain ⟨z2, Z2, e2, f2, g2⟩ := f_mul f1 g1 (by decide) (mz_ (A2 * 1000000000) x2)
  rw [mulU] at g2
  obtain ⟨y1, Y1, e3, f3, g3⟩ := f_mul i1 c1 (by decide) (mz_ A1 x3)
  rw [mulU] at g3
  obtain ⟨s1, S1, e4, f4, g4⟩ := f_add f2 f3 g2 (g3.mono (by decide)) (by decide) (by rw [← Nat.add_mul]; exact X56)
  rw [← Nat.add_mul] at g4
  obtain ⟨t, TT, e5, f5, g5⟩ := f_add f4 i0 g4 (c0.mono (by decide)) (by decide) (by rw [← Nat.add_mul, ← hT]; exact X78)
  rw [← Nat.add_mul, ← hT] at g5
  obtain ⟨v1, V1, e6, f6, g6⟩ := f_mul j1 k1 (by decide) (mz_ B1 x4)
  rw [mulU] at g6
  obtain ⟨d, DD, e7, f7, g7⟩ := f_add f6 j0 g6 (k0.mono (by decide)) (by decide) (by rw [← Nat.add_mul, ← hD]; exact X910)
  rw [← Nat.add_mul, ← hD] at g7
  clear i2 i1 i0 j1 j0 c2 c1 c0 k1 k0 f1 f2 f3 f4 f6 g1 g2 g3 g4 g6 mulU x1 x2 x3 x4 x5 x6 x7 x8 x10 hT hD a2 a1 a0 b1 b0
  have hU := UU_pos
  have hP : 100000000000 ≤ 2 ^ 48 := by decide
  obtain ⟨p1, p2⟩ := g5
  obtain ⟨q1, q2⟩ := g7
  generalize hPP : (2 : Nat) ^ 48 = P at *
  -- plain bounds
  have r1 : T * UU ≤ 2 * TT := half_lo (by omega) (by omega) p2
  have r2 : TT ≤ 2 * (T * UU) := half_hi (by omega) (by omega) p1
  have r3 : D * UU ≤ 2 * DD := half_lo (by omega) (by omega) q2
  have r4 : DD ≤ 2 * (D * UU) := half_hi (by omega) (by omega) q1
  have hDU : UU ≤ D * UU := Nat.le_mul_of_pos_left _ (by omega)
  have hTU : D * UU ≤ T * UU := Nat.mul_le_mul_right _ hTD
  have hDD : 0 < DD := by omega
  have hTT : 0 < TT := by omega
  have hmid : 2 * (TT * UU / DD) + 2 < pw 1290 ∧ Mid (TT * UU / DD / 2) := by
    have u1 : TT * UU / DD ≤ 4 * T * UU := by
      refine Nat.div_le_of_le_mul ?_
      have a1 : TT * UU ≤ 2 * (T * UU) * (2 * DD) := Nat.mul_le_mul r2 (by omega)
      have a2 : 2 * (T * UU) * (2 * DD) = DD * (4 * T * UU) := by
        rw [Nat.mul_comm DD, Nat.mul_mul_mul_comm, Nat.mul_assoc 4, Nat.mul_assoc 4]
      omega
    have u2 : UU ≤ 4 * (TT * UU / DD) + 4 := by
      have a1 : DD ≤ 4 * TT := by omega
      have a2 : DD * UU ≤ 4 * (TT * UU) := by rw [← Nat.mul_assoc]; exact Nat.mul_le_mul_right _ a1
      have a3 := Nat.lt_mul_div_succ (TT * UU) hDD
      have a4 : 4 * (TT * UU) < DD * (4 * (TT * UU / DD + 1)) := by
        rw [show DD * (4 * (TT * UU / DD + 1)) = 4 * (DD * (TT * UU / DD + 1)) from Nat.mul_left_comm _ _ _]
        exact Nat.mul_lt_mul_of_pos_left a3 (by decide)
      have a5 : DD * UU < DD * (4 * (TT * UU / DD + 1)) := Nat.lt_of_le_of_lt a2 a4
      have := Nat.lt_of_mul_lt_mul_left a5
      omega
    have v1 : T * UU < 1237940039285380274899124224 * UU := Nat.mul_lt_mul_of_pos_right hTb hU
    have v2 : 1237940039285380274899124224 * UU = pw 1190 := by
      rw [show pw 1190 = 2 ^ 30 * pw 1160 from pw_addl 30 1160, show pw 1160 = 2 ^ 30 * pw 1130 from pw_addl 30 1130, show pw 1130 = 2 ^ 30 * UU from pw_addl 30 1100]
      omega
    have v3 : pw 1290 = 2 ^ 100 * pw 1190 := pw_addl 100 1190
    have v4 : UU = 2 ^ 10 * pw 1090 := pw_addl 10 1090
    have v5 := pw_pos 1090
    have v6 := pw_pos 1190
    rw [Nat.mul_assoc] at u1
    generalize TT * UU / DD = X at *
    generalize T * UU = Y at *
    refine ⟨by omega, ?_, ?_⟩
    · omega
    · omega
  obtain ⟨r, K, e8, f8, g8⟩ := f_div f5 f7 (by omega) (by omega) hmid
  obtain ⟨w1, w2⟩ := g8
  rw [hPP] at w1 w2
  -- the quotient
  have G1 : K * D * ((P - 3) * P) ≤ T * UU * ((P + 5) * (P + 3)) := by
    refine Nat.le_of_mul_le_mul_right (c := UU) ?_ hU
    have x1 : K * (D * UU * (P - 3)) ≤ K * (DD * P) := Nat.mul_le_mul_left _ q2
    have x2 : K * (D * UU * (P - 3)) * P ≤ TT * UU * (P + 3) * P := by
      refine Nat.mul_le_mul_right _ (Nat.le_trans x1 ?_)
      rw [← Nat.mul_assoc]
      exact w1
    have x3 : TT * P * (UU * (P + 3)) ≤ T * UU * (P + 5) * (UU * (P + 3)) := Nat.mul_le_mul_right _ p1
    calc K * D * ((P - 3) * P) * UU = K * (D * UU * (P - 3)) * P := by ac_rfl
      _ ≤ TT * UU * (P + 3) * P := x2
      _ = TT * P * (UU * (P + 3)) := by ac_rfl
      _ ≤ T * UU * (P + 5) * (UU * (P + 3)) := x3
      _ = T * UU * ((P + 5) * (P + 3)) * UU := by ac_rfl
  have G2 : T * UU * ((P - 5) * (P - 3)) ≤ K * D * ((P + 3) * P) := by
    refine Nat.le_of_mul_le_mul_right (c := UU) ?_ hU
    have x1 : T * UU * (P - 5) * (UU * (P - 3)) ≤ TT * P * (UU * (P - 3)) := Nat.mul_le_mul_right _ p2
    have x2 : TT * UU * (P - 3) * P ≤ K * DD * P * P := Nat.mul_le_mul_right _ w2
    have x3 : K * (DD * P) * P ≤ K * (D * UU * (P + 3)) * P := Nat.mul_le_mul_right _ (Nat.mul_le_mul_left _ q1)
    calc T * UU * ((P - 5) * (P - 3)) * UU = T * UU * (P - 5) * (UU * (P - 3)) := by ac_rfl
      _ ≤ TT * P * (UU * (P - 3)) := x1
      _ = TT * UU * (P - 3) * P := by ac_rfl
      _ ≤ K * DD * P * P := x2
      _ = K * (DD * P) * P := by ac_rfl
      _ ≤ K * (D * UU * (P + 3)) * P := x3
      _ = K * D * ((P + 3) * P) * UU := by ac_rfl
  have hg1 : K / UU * UU ≤ K := Nat.div_mul_le_self _ _
  have hg2 : K < (K / UU + 1) * UU := by
    have := Nat.lt_mul_div_succ K hU
    rw [Nat.mul_comm]
    exact this
  have up : K / UU ≤ q + 2 := by
    refine up_est (D := D) (T := T) (P := P) ?_ hup (by omega) hD1 (by omega)
    refine Nat.le_of_mul_le_mul_right (c := UU) ?_ hU
    have := Nat.mul_le_mul_right (D * ((P - 3) * P)) hg1
    calc K / UU * D * ((P - 3) * P) * UU = K / UU * UU * (D * ((P - 3) * P)) := by ac_rfl
      _ ≤ K * (D * ((P - 3) * P)) := this
      _ = K * D * ((P - 3) * P) := by rw [Nat.mul_assoc]
      _ ≤ T * UU * ((P + 5) * (P + 3)) := G1
      _ = T * ((P + 5) * (P + 3)) * UU := by rw [Nat.mul_right_comm]
  have dn : q ≤ K / UU + 2 := by
    refine dn_est (D := D) (T := T) (P := P) ?_ hdn (by omega) (by omega) (by omega)
    refine Nat.le_of_mul_le_mul_right (c := UU) ?_ hU
    have := Nat.mul_le_mul_right (D * ((P + 3) * P)) (Nat.le_of_lt hg2)
    calc T * ((P - 5) * (P - 3)) * UU = T * UU * ((P - 5) * (P - 3)) := by rw [Nat.mul_right_comm]
      _ ≤ K * D * ((P + 3) * P) := G2
      _ = K * (D * ((P + 3) * P)) := by rw [Nat.mul_assoc]
      _ ≤ (K / UU + 1) * UU * (D * ((P + 3) * P)) := this
      _ = (K / UU + 1) * D * ((P + 3) * P) * UU := by ac_rfl
  exact ⟨y2, z2, y1, s1, t, v1, d, r, K / UU, e1, e2, e3, e4, e5, e6, e7, e8, f_toInt f8 (by omega), up, dn⟩
end Go.Proofs.Ytkhcblheekfdmaa
