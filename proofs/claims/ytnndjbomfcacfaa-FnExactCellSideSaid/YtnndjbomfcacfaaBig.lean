/- Whole numbers as the program lays them down: making, sums, products, comparing: the program's and the reference's. -/
import Derived.Test.YtnndjbomfcacfaaNatG
import Derived.Test.YtnndjbomfcacfaaClo
namespace Go.Proofs.Ytnndjbomfcacfaa
open Go.RowKit
theorem sgn_nil (s : Bool) : decide (sgn s 0 < 0) = false := by rw [sgn_neg]; simp
theorem sgn_pos {s : Bool} {m : Nat} (h : 0 < (limbs m).length) : decide (sgn s m < 0) = s := by rw [sgn_neg]; have := limbs_len_pos.1 h; simp [this]
theorem sgn_mul (s t : Bool) (m n : Nat) : sgn s m * sgn t n = sgn (!(s == t)) (m * n) := by
  unfold sgn
  cases s <;> cases t <;> simp [Int.neg_mul, Int.mul_neg]
theorem sgn_same (s : Bool) (m n : Nat) : sgn s m + sgn s n = sgn s (m + n) := by unfold sgn; cases s <;> simp <;> omega
theorem sgn_diff (s : Bool) {m n : Nat} (h : n ≤ m) : sgn s m + sgn (!s) n = sgn s (m - n) := by unfold sgn; cases s <;> simp <;> omega
theorem sh1 {α : Type} {S : Ty α} {w : World} {v : Value} {l : List α} (h : (tSlice S).at w [v] l) : ∃ a n c, v = .slice a n c := by
  obtain ⟨a, c, h⟩ := sl_len h
  exact ⟨a, _, c, h⟩
/-- Limbs are not hit by a store into a cell that holds no int. -/
theorem ints_set {w : World} {v : Value} {l : List Int} {a : Addr} {x u : Value} (h : tInts.at w [v] l) (hc : w.cell? a = some x) (hx : ∀ n, x ≠ .int .i64 n) : tInts.at (w.setCell a u) [v] l := by
  obtain ⟨ao, cap, rfl, k1, k2, k3, k4⟩ := slRd_at h
  refine ⟨ao, cap, rfl, k1, k2, k3, fun hl => ?_⟩
  obtain ⟨b, off, rfl, hp, hb, he⟩ := k4 hl
  refine ⟨b, off, rfl, hp, by simpa using hb, fun k y hy => ?_⟩
  obtain ⟨c, hc1, hc2⟩ := he k y hy
  obtain rfl := hc1.1
  refine ⟨_, hc1, fun j q hq => ?_⟩
  have h3 := hc2 j q hq
  refine (World.cell?_setCell_other _ _ _ _ ?_).trans h3
  intro e
  have h4 : q = .int .i64 y := by
    cases j with
    | zero => simpa using hq.symm
    | succ j => simp at hq
  subst h4
  rw [← e, hc] at h3
  exact hx y (by simpa using h3)
theorem ints_set2 {w : World} {v : Value} {l : List Int} {r : Nat} {b : Bool} {p : Option Addr} {q t : Nat} {c0 c1 : Value} (h : tInts.at w [v] l) (h0 : w.cell? ⟨r, 0, none⟩ = some (.bool b)) (h1 : w.cell? ⟨r, 1, none⟩ = some (.slice p q t)) :
    tInts.at ((w.setCell ⟨r, 0, none⟩ c0).setCell ⟨r, 1, none⟩ c1) [v] l :=
  ints_set (ints_set h h0 (by simp)) ((World.cell?_setCell_other _ _ _ _ (by simp)).trans h1) (by simp)
theorem ints_set3 {w : World} {v : Value} {l : List Int} {r : Nat} {b : Bool} {p p' : Option Addr} {q t q' t' : Nat} {c0 c1 c2 : Value} (h : tInts.at w [v] l) (h0 : w.cell? ⟨r, 0, none⟩ = some (.bool b)) (h1 : w.cell? ⟨r, 1, none⟩ = some (.slice p q t)) (h2 : w.cell? ⟨r, 2, none⟩ = some (.slice p' q' t')) :
    tInts.at (((w.setCell ⟨r, 0, none⟩ c0).setCell ⟨r, 1, none⟩ c1).setCell ⟨r, 2, none⟩ c2) [v] l :=
  ints_set (ints_set2 h h0 h1) ((World.cell?_setCell_other _ _ _ _ (by simp)).trans ((World.cell?_setCell_other _ _ _ _ (by simp)).trans h2)) (by simp)
end Go.Proofs.Ytnndjbomfcacfaa
