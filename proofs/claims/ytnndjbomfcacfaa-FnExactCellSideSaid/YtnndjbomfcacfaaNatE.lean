/- The program's digit of a quotient: guessed by floats, then by halving. -/
import Derived.Test.YtnndjbomfcacfaaRows
import Derived.Test.YtnndjbomfcacfaaNatD
import Derived.Test.YtnndjbomfcacfaaApp
import Derived.Test.YtnndjbomfcacfaaGFlo
import Derived.Deep.RegionHeld3
import Derived.Deep.QuietTactic
import Derived.BigQuiet
import Derived.IntWalk
namespace Go.Proofs.Ytnndjbomfcacfaa
open Go.RowKit
theorem dig_TD {a b m : Nat} (hm : (limbs b).length = m + 2) (hba : b ≤ a) (hab : a < b * 1000000000) {A2 A1 A0 B1 B0 : Nat} (e2 : (limbs a).getD (m + 2) 0 = A2) (e1 : (limbs a).getD (m + 1) 0 = A1) (e0 : (limbs a).getD m 0 = A0) (f1 : (limbs b).getD (m + 1) 0 = B1) (f0 : (limbs b).getD m 0 = B0)
    {T D : Nat} (hT : T = A2 * 1000000000 * 1000000000 + A1 * 1000000000 + A0) (hD : D = B1 * 1000000000 + B0) :
    0 < B1 ∧ D ≤ T ∧ T < (a / b + 1) * (D + 1) ∧ a / b * D ≤ T := by
  have hb0 : 0 < b := by omega
  have hG := bp_pos m
  have hla : (limbs a).length ≤ m + 3 := by
    rw [limbs_len_le, bp_succ]
    have := limbs_lt b
    rw [hm] at this
    omega
  have ga := val_take_all (limbs a) hla
  rw [val_take_succ, val_take_succ, val_take_succ, limbs_val, e2, e1, e0, show bp (m + 2) = 1000000000 * bp (m + 1) from rfl, bp_succ m] at ga
  have gb := val_take_all (limbs b) (Nat.le_of_eq hm)
  rw [val_take_succ, val_take_succ, limbs_val, f1, f0, bp_succ] at gb
  have la := limbs_take_lt a m
  have la0 := limbs_take_nonneg a m
  have lb := limbs_take_lt b m
  have lb0 := limbs_take_nonneg b m
  have hbg := limbs_ge (n := b) (by omega)
  rw [hm, show m + 2 - 1 = m + 1 from rfl, bp_succ] at hbg
  have B0l : (B0 : Int) < 1000000000 := by have := limbs_get b m; rw [f0] at this; exact this.2
  generalize val ((limbs a).take m) = LA at *
  generalize val ((limbs b).take m) = LB at *
  generalize bp m = G at *
  have hA : (a : Int) = LA + G * (T : Int) := by
    rw [hT, ← ga]
    show _ = LA + G * (((A2 : Int) * 1000000000) * 1000000000 + (A1 : Int) * 1000000000 + (A0 : Int))
    clear ga gb hbg hba hab B0l hla
    generalize (1000000000 : Int) = BBB
    rw [Int.mul_add, Int.mul_add]
    ac_rfl
  have hB : (b : Int) = LB + G * (D : Int) := by
    rw [hD, ← gb]
    show _ = LB + G * ((B1 : Int) * 1000000000 + (B0 : Int))
    clear ga gb hbg hba hab B0l hla
    generalize (1000000000 : Int) = BBB
    rw [Int.mul_add]
    ac_rfl
  have q1 : a / b * b ≤ a := Nat.div_mul_le_self _ _
  have q2 : a < (a / b + 1) * b := by have := Nat.lt_mul_div_succ a hb0; rw [Nat.mul_comm]; exact this
  generalize a / b = q at *
  have key : ∀ x y : Int, G * x < G * (y + 1) → x ≤ y := fun x y h => by
    have := Int.lt_of_mul_lt_mul_left h (Int.le_of_lt hG)
    omega
  refine ⟨?_, ?_, ?_, ?_⟩
  · apply Nat.pos_of_ne_zero
    intro h0
    rw [h0] at gb
    have z : G * (B0 : Int) ≤ G * 999999999 := Int.mul_le_mul_of_nonneg_left (by omega) (Int.le_of_lt hG)
    simp at gb
    omega
  · have := key D T (by rw [Int.mul_add, Int.mul_one]; omega)
    omega
  · have h1 : (a : Int) < ((q : Int) + 1) * b := by
      have : ((a : Nat) : Int) < (((q + 1) * b : Nat) : Int) := by omega
      simpa using this
    have h2 : ((q : Int) + 1) * b ≤ ((q : Int) + 1) * (G * ((D : Int) + 1)) := Int.mul_le_mul_of_nonneg_left (by rw [Int.mul_add, Int.mul_one]; omega) (by omega)
    have h3 : G * (T : Int) < G * (((q : Int) + 1) * ((D : Int) + 1)) := by
      rw [Int.mul_left_comm] at h2
      omega
    have h4 := Int.lt_of_mul_lt_mul_left h3 (Int.le_of_lt hG)
    have h5 : ((T : Nat) : Int) < (((q + 1) * (D + 1) : Nat) : Int) := by simpa using h4
    omega
  · have h1 : (q : Int) * b ≤ a := by
      have : (((q * b : Nat)) : Int) ≤ a := by omega
      simpa using this
    have h2 : (q : Int) * (G * (D : Int)) ≤ (q : Int) * b := Int.mul_le_mul_of_nonneg_left (by omega) (by omega)
    rw [Int.mul_left_comm] at h2
    have := key ((q : Int) * D) T (by rw [Int.mul_add, Int.mul_one]; omega)
    have h5 : (((q * D : Nat)) : Int) ≤ T := by simpa using this
    omega
end Go.Proofs.Ytnndjbomfcacfaa
