/- Whole numbers and fractions in lowest terms, as the program lays them down. Plain facts; it speaks of no program. -/
import Derived.Test.YtkhcblheekfdmaaLimb
import Derived.Test.YtkhcblheekfdmaaBase
namespace Go.Proofs.Ytkhcblheekfdmaa

/-! ### Natural numbers, whole numbers -/
open Classical in
noncomputable def natOkB (l : List Int) : Bool := decide (l.length ≤ 60 ∧ Can l)
abbrev QZ := Bool × List Int
/-- A whole number's sign and limbs. -/
def encZ (n : Int) : QZ := (decide (n < 0), limbs n.natAbs)
/-- The number of a sign and a size. -/
def sgn (b : Bool) (m : Nat) : Int := if b then -(m : Int) else m
theorem natAbs_sgn (b : Bool) (m : Nat) : (sgn b m).natAbs = m := by unfold sgn; split <;> simp
theorem sgn_neg (b : Bool) (m : Nat) : decide (sgn b m < 0) = (b && decide (m ≠ 0)) := by
  unfold sgn
  cases b
  · simp
  · by_cases h : m = 0
    · simp [h]
    · simp [h]; omega
theorem encZ_sgn (b : Bool) (m : Nat) : encZ (sgn b m) = (b && decide (m ≠ 0), limbs m) := by unfold encZ; rw [natAbs_sgn, sgn_neg]
theorem sgn_self (n : Int) : sgn (decide (n < 0)) n.natAbs = n := by
  unfold sgn
  by_cases h : n < 0
  · simp [h]; omega
  · simp [h]; omega
theorem encZ_inj {m n : Int} (h : encZ m = encZ n) : m = n := by
  have h1 := congrArg Prod.fst h
  have h2 := limbs_inj (congrArg Prod.snd h)
  simp only [encZ, decide_eq_decide] at h1
  omega
/-! ### Fractions -/
abbrev Fr := Int × Nat
def encR (f : Fr) : QR := (encZ f.1, limbs f.2)
theorem encR_inj {f g : Fr} (h : encR f = encR g) : f = g := Prod.ext (encZ_inj (congrArg Prod.fst h)) (limbs_inj (congrArg Prod.snd h))
/-- At most 24 limbs. -/
def sm (n : Nat) : Bool := decide ((limbs n).length ≤ 24)
theorem sm_iff {n : Nat} : sm n = true ↔ (limbs n).length ≤ 24 := by simp [sm]
/-- A fraction that is one. -/
def Good (f : Fr) : Prop := f.2 ≠ 0 ∧ Nat.gcd f.1.natAbs f.2 = 1 ∧ sm f.1.natAbs = true ∧ sm f.2 = true
/-- .. or nothing. -/
def Vd (f : Fr) : Prop := f = (0, 0) ∨ Good f
theorem Vd.zero : Vd (0, 0) := .inl rfl
theorem Good.vd {f : Fr} (h : Good f) : Vd f := .inr h
theorem Vd.good {f : Fr} (h : Vd f) (k : f.2 ≠ 0) : Good f := by
  rcases h with rfl | h
  · exact absurd rfl k
  · exact h
theorem Vd.sm1 {f : Fr} (h : Vd f) : (limbs f.1.natAbs).length ≤ 24 := by
  rcases h with rfl | h
  · simp [limbs_zero]
  · exact sm_iff.1 h.2.2.1
theorem Vd.sm2 {f : Fr} (h : Vd f) : (limbs f.2).length ≤ 24 := by
  rcases h with rfl | h
  · simp [limbs_zero]
  · exact sm_iff.1 h.2.2.2
theorem Vd.of_bad {f : Fr} (h : Vd f) (k : f.2 = 0) : f = (0, 0) := by
  rcases h with rfl | h
  · rfl
  · exact absurd k h.1
def frMk (n : Int) (d : Nat) : Fr :=
  if sm (n.natAbs / Nat.gcd n.natAbs d) && sm (d / Nat.gcd n.natAbs d) then (sgn (decide (n < 0)) (n.natAbs / Nat.gcd n.natAbs d), d / Nat.gcd n.natAbs d) else (0, 0)
theorem frMk_vd (n : Int) {d : Nat} (hd : d ≠ 0) : Vd (frMk n d) := by
  unfold frMk
  split
  · rename_i h
    rw [Bool.and_eq_true] at h
    right
    have hg : 0 < Nat.gcd n.natAbs d := Nat.gcd_pos_of_pos_right _ (Nat.pos_of_ne_zero hd)
    refine ⟨?_, ?_, by rw [natAbs_sgn]; exact h.1, h.2⟩
    · have := Nat.le_of_dvd (Nat.pos_of_ne_zero hd) (Nat.gcd_dvd_right n.natAbs d)
      have := Nat.div_pos this hg
      show d / Nat.gcd n.natAbs d ≠ 0
      omega
    · rw [natAbs_sgn]
      have := Nat.gcd_div (Nat.gcd_dvd_left n.natAbs d) (Nat.gcd_dvd_right n.natAbs d)
      show Nat.gcd (n.natAbs / Nat.gcd n.natAbs d) (d / Nat.gcd n.natAbs d) = 1
      rw [this, Nat.div_self hg]
  · exact .inl rfl
/-- In lowest terms already. -/
theorem frMk_good {f : Fr} (h : Good f) : frMk f.1 f.2 = f := by
  unfold frMk
  rw [h.2.1, Nat.div_one, Nat.div_one, h.2.2.1, h.2.2.2, sgn_self]
  rfl
def frAdd (r s : Fr) : Fr := if r.2 = 0 ∨ s.2 = 0 then (0, 0) else frMk (r.1 * s.2 + s.1 * r.2) (r.2 * s.2)
def frMul (r s : Fr) : Fr := if r.2 = 0 ∨ s.2 = 0 then (0, 0) else frMk (r.1 * s.1) (r.2 * s.2)
def frDiv (r s : Fr) : Fr := if r.2 = 0 ∨ s.2 = 0 ∨ s.1 = 0 then (0, 0) else frMk (sgn (decide (r.1 < 0) != decide (s.1 < 0)) (r.1.natAbs * s.2)) (r.2 * s.1.natAbs)
def frNeg (r : Fr) : Fr := (-r.1, r.2)
def frSub (r s : Fr) : Fr := frAdd r (frNeg s)
def frCmp (r s : Fr) : Int := if r.2 = 0 ∨ s.2 = 0 then 0 else cmpI (r.1 * s.2) (s.1 * r.2)
def frInt (n : Int) : Fr := (n, 1)
def frSign (r : Fr) : Int := if r.2 = 0 then 0 else cmpI r.1 0
theorem frAdd_vd {r s : Fr} : Vd (frAdd r s) := by
  unfold frAdd
  split
  · exact .inl rfl
  · rename_i h
    exact frMk_vd _ (Nat.mul_ne_zero (fun e => h (.inl e)) (fun e => h (.inr e)))
theorem frMul_vd {r s : Fr} : Vd (frMul r s) := by
  unfold frMul
  split
  · exact .inl rfl
  · rename_i h
    exact frMk_vd _ (Nat.mul_ne_zero (fun e => h (.inl e)) (fun e => h (.inr e)))
theorem frDiv_vd {r s : Fr} : Vd (frDiv r s) := by
  unfold frDiv
  split
  · exact .inl rfl
  · rename_i h
    exact frMk_vd _ (Nat.mul_ne_zero (fun e => h (.inl e)) (fun e => h (.inr (.inr (by omega)))))
theorem frNeg_vd {r : Fr} (h : Vd r) : Vd (frNeg r) := by
  rcases h with rfl | h
  · exact .inl rfl
  · right
    obtain ⟨h1, h2, h3, h4⟩ := h
    refine ⟨h1, ?_, ?_, h4⟩
    · show Nat.gcd (-r.1).natAbs r.2 = 1
      rw [Int.natAbs_neg]; exact h2
    · show sm (-r.1).natAbs = true
      rw [Int.natAbs_neg]; exact h3
theorem frSub_vd {r s : Fr} : Vd (frSub r s) := frAdd_vd
theorem limbs_1 : limbs 1 = [1] := by
  have := limbs_one (n := 1) (by decide) (by decide)
  simpa using this
theorem frInt_vd {n : Int} (h : In64 n) : Vd (frInt n) := by
  have h1 := h.out
  refine .inr ⟨Nat.one_ne_zero, Nat.gcd_one_right _, sm_iff.2 (limbs_len_le.2 ?_), sm_iff.2 (by show (limbs 1).length ≤ 24; rw [limbs_1]; decide)⟩
  have h2 := bp_mono (show 3 ≤ 24 by decide)
  have h3 : bp 3 = 1000000000000000000000000000 := by decide
  show ((n.natAbs : Nat) : Int) < bp 24
  omega
theorem limbs_is1 {n : Nat} : limbs n = [1] ↔ n = 1 := ⟨fun h => limbs_inj (h.trans limbs_1.symm), fun h => by rw [h, limbs_1]⟩
end Go.Proofs.Ytkhcblheekfdmaa
