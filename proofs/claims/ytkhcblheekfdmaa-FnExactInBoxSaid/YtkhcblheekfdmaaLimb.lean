/- Lists of limbs: prefixes, single limbs, order, division with small and great numbers. Plain facts; it speaks of no program. -/
import Derived.Test.YtkhcblheekfdmaaNum
namespace Go.Proofs.Ytkhcblheekfdmaa

theorem val_take_succ (l : List Int) (i : Nat) : val (l.take (i + 1)) = val (l.take i) + bp i * l.getD i 0 := by
  by_cases h : i < l.length
  · rw [List.take_succ_eq_append_getElem h, val_snoc, List.length_take, Nat.min_eq_left (Nat.le_of_lt h), List.getD_eq_getElem?_getD, List.getElem?_eq_getElem h, Option.getD_some]
  · rw [List.take_of_length_le (by omega), List.take_of_length_le (by omega), List.getD_eq_getElem?_getD, List.getElem?_eq_none (by omega)]
    simp
theorem val_take_all (l : List Int) {i : Nat} (h : l.length ≤ i) : val (l.take i) = val l := by rw [List.take_of_length_le h]
theorem val_take_zero (l : List Int) : val (l.take 0) = 0 := rfl
theorem val_set : ∀ (l : List Int) (i : Nat) (d : Int), i < l.length → val (l.set i d) = val l + bp i * (d - l.getD i 0)
  | [], i, d, h => by simp at h
  | x :: l, 0, d, _ => by simp [val, bp]; omega
  | x :: l, i + 1, d, h => by
    have ih := val_set l i d (by simpa using h)
    simp only [List.set_cons_succ, val, ih, bp, List.getD_cons_succ, Int.mul_add, Int.mul_assoc]
    omega
theorem getD_set_ne {l : List Int} {i j : Nat} {d : Int} (h : i ≠ j) : (l.set i d).getD j 0 = l.getD j 0 := by
  rw [List.getD_eq_getElem?_getD, List.getD_eq_getElem?_getD, List.getElem?_set_ne h]
theorem getD_set_eq {l : List Int} {i : Nat} {d : Int} (h : i < l.length) : (l.set i d).getD i 0 = d := by
  rw [List.getD_eq_getElem?_getD, List.getElem?_set_self h, Option.getD_some]
theorem IsL.set {l : List Int} (h : IsL l) {i : Nat} {d : Int} (hd : 0 ≤ d ∧ d < 1000000000) : IsL (l.set i d) := by
  intro e he
  rcases List.mem_or_eq_of_mem_set he with h1 | rfl
  · exact h e h1
  · exact hd
theorem isL_zeros (n : Nat) : IsL (List.replicate n 0) := fun e he => by
  rw [(List.mem_replicate.1 he).2]
  omega
theorem val_drop (l : List Int) (p : Nat) (hp : p ≤ l.length) : val l = val (l.take p) + bp p * val (l.drop p) := by
  have := val_append (l.take p) (l.drop p)
  rwa [List.take_append_drop, List.length_take, Nat.min_eq_left hp] at this
/-- Above a small value all limbs are 0. -/
theorem high_zero {l : List Int} (h : IsL l) {p : Nat} (hv : val l < bp p) : ∀ j, p ≤ j → l.getD j 0 = 0 := by
  intro j hj
  by_cases hl : j < l.length
  · have hd := h.get j
    apply Classical.byContradiction
    intro hn
    have h1 : 1 ≤ l.getD j 0 := by omega
    have h2 := val_drop l j (by omega)
    have h3 : bp j ≤ val l := by
      have h4 := val_drop l (j + 1) (by omega)
      have h5 := val_take_succ l j
      have h6 : 0 ≤ bp (j + 1) * val (l.drop (j + 1)) := Int.mul_nonneg (Int.le_of_lt (bp_pos _)) (val_nonneg (h.drop _))
      have h7 : bp j * 1 ≤ bp j * l.getD j 0 := Int.mul_le_mul_of_nonneg_left h1 (Int.le_of_lt (bp_pos _))
      have h8 := val_nonneg (h.take j)
      omega
    have := bp_mono hj
    omega
  · rw [List.getD_eq_getElem?_getD, List.getElem?_eq_none (by omega)]
    rfl
theorem limbs_take_lt (n i : Nat) : val ((limbs n).take i) < bp i := by
  have h1 := val_lt ((limbs_isL n).take i)
  exact Int.lt_of_lt_of_le h1 (bp_mono (by rw [List.length_take]; omega))
theorem limbs_take_nonneg (n i : Nat) : 0 ≤ val ((limbs n).take i) := val_nonneg ((limbs_isL n).take i)
theorem limbs_get (n i : Nat) : 0 ≤ (limbs n).getD i 0 ∧ (limbs n).getD i 0 < 1000000000 := (limbs_isL n).get i
theorem bp_succ (k : Nat) : bp (k + 1) = 1000000000 * bp k := rfl
theorem bp_len_le {n : Nat} (h : n ≠ 0) : bp ((limbs n).length - 1) ≤ n := limbs_ge h
theorem limbs_len_pos {n : Nat} : 0 < (limbs n).length ↔ n ≠ 0 := by
  rw [List.length_pos_iff, Ne, limbs_nil]
theorem limbs_len_mul (a b : Nat) : (limbs (a * b)).length ≤ (limbs a).length + (limbs b).length := by
  rw [limbs_len_le, bp_add]
  have h1 := limbs_lt a
  have h2 := limbs_lt b
  have h3 : (a : Int) * b ≤ a * bp (limbs b).length := Int.mul_le_mul_of_nonneg_left (by omega) (by omega)
  have h4 := bp_pos (limbs b).length
  have h5 : (a : Int) * bp (limbs b).length < bp (limbs a).length * bp (limbs b).length := Int.mul_lt_mul_of_pos_right h1 h4
  rw [Int.natCast_mul]
  omega
theorem limbs_len_add (a b : Nat) : (limbs (a + b)).length ≤ max (limbs a).length (limbs b).length + 1 := by
  rw [limbs_len_le, bp_succ]
  have h1 := limbs_lt a
  have h2 := limbs_lt b
  have h3 := bp_mono (show (limbs a).length ≤ max (limbs a).length (limbs b).length by omega)
  have h4 := bp_mono (show (limbs b).length ≤ max (limbs a).length (limbs b).length by omega)
  omega
theorem limbs_cons {a r : Nat} (h : a < 1000000000) (hp : r ≠ 0 ∨ a ≠ 0) : (a : Int) :: limbs r = limbs (a + 1000000000 * r) := by
  refine can_limbs ⟨IsL.mk (by omega) (limbs_isL r), .inr ?_⟩ ?_
  · simp only [List.length_cons, Nat.add_sub_cancel, val, limbs_val, BB_eq]
    by_cases h0 : r = 0
    · subst h0
      rw [limbs_zero]
      simp [bp]
      omega
    · have h1 := limbs_ge h0
      cases hl : (limbs r).length with
      | zero => exact absurd (limbs_nil.1 (List.eq_nil_of_length_eq_zero hl)) h0
      | succ k =>
        rw [hl] at h1
        rw [bp_succ]
        simp only [Nat.add_sub_cancel] at h1
        omega
  · simp only [val, limbs_val, BB_eq]
    omega

/-- Three-way comparison. -/
def cmpI (a b : Int) : Int := if a < b then -1 else if b < a then 1 else 0
theorem cmpI_lt {a b : Int} (h : a < b) : cmpI a b = -1 := if_pos h
theorem cmpI_gt {a b : Int} (h : b < a) : cmpI a b = 1 := by unfold cmpI; rw [if_neg (by omega), if_pos h]
theorem cmpI_eq {a b : Int} (h : a = b) : cmpI a b = 0 := by unfold cmpI; rw [if_neg (by omega), if_neg (by omega)]
theorem cmpI_range (a b : Int) : -1 ≤ cmpI a b ∧ cmpI a b ≤ 1 := by unfold cmpI; split <;> (try split) <;> omega
theorem cmpI_neg {a b : Int} : cmpI a b < 0 ↔ a < b := by unfold cmpI; split <;> (try split) <;> omega
theorem cmpI_pos {a b : Int} : 0 < cmpI a b ↔ b < a := by unfold cmpI; split <;> (try split) <;> omega
theorem cmpI_zero {a b : Int} : cmpI a b = 0 ↔ a = b := by unfold cmpI; split <;> (try split) <;> omega

/-- Lists of limbs of one length: the highest limb that differs decides. -/
theorem val_cmp {l m : List Int} (hl : IsL l) (hm : IsL m) {k : Nat} (hlen : l.length = m.length) (hk : k < l.length) (he : ∀ j, k < j → j < l.length → l.getD j 0 = m.getD j 0) (hlt : l.getD k 0 < m.getD k 0) : val l < val m := by
  have hd : l.drop (k + 1) = m.drop (k + 1) := by
    apply List.ext_getElem?
    intro i
    rw [List.getElem?_drop, List.getElem?_drop]
    by_cases hi : k + 1 + i < l.length
    · have := he (k + 1 + i) (by omega) hi
      rw [List.getD_eq_getElem?_getD, List.getD_eq_getElem?_getD, List.getElem?_eq_getElem hi, List.getElem?_eq_getElem (by omega)] at this
      rw [List.getElem?_eq_getElem hi, List.getElem?_eq_getElem (by omega)]
      simpa using this
    · rw [List.getElem?_eq_none (by omega), List.getElem?_eq_none (by omega)]
  have h1 := val_drop l (k + 1) (by omega)
  have h2 := val_drop m (k + 1) (by omega)
  have h3 := val_take_succ l k
  have h4 := val_take_succ m k
  rw [hd] at h1
  have h5 : bp k * (l.getD k 0 + 1) ≤ bp k * m.getD k 0 := Int.mul_le_mul_of_nonneg_left (by omega) (Int.le_of_lt (bp_pos _))
  rw [Int.mul_add, Int.mul_one] at h5
  have h6 : val (l.take k) < bp k := Int.lt_of_lt_of_le (val_lt (hl.take k)) (bp_mono (by rw [List.length_take]; omega))
  have h7 := val_nonneg (hm.take k)
  omega
theorem val_cmp_len {a b : Nat} (h : (limbs a).length < (limbs b).length) : (a : Int) < b := by
  have h1 := limbs_lt a
  have hb : b ≠ 0 := limbs_len_pos.1 (by omega)
  have h2 := limbs_ge hb
  have h3 := bp_mono (show (limbs a).length ≤ (limbs b).length - 1 by omega)
  omega
end Go.Proofs.Ytkhcblheekfdmaa
