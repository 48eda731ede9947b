/- Natural numbers as limbs: the product: the program's and the reference's. -/
import Derived.Test.YtnndjbomfcacfaaRows
import Derived.Test.YtnndjbomfcacfaaNatB
import Derived.Test.YtnndjbomfcacfaaApp
import Derived.Deep.RegionHeld3
import Derived.Deep.QuietTactic
import Derived.BigQuiet
import Derived.IntWalk
namespace Go.Proofs.Ytnndjbomfcacfaa
open Go.RowKit
theorem mul_lt_low (a b i : Nat) : val ((limbs a).take i) * b < bp (i + (limbs b).length) := by
  have h1 := limbs_take_lt a i
  have h2 := limbs_lt b
  have h3 := limbs_take_nonneg a i
  rw [bp_add]
  have h4 : val ((limbs a).take i) * b ≤ val ((limbs a).take i) * bp (limbs b).length := Int.mul_le_mul_of_nonneg_left (by omega) h3
  have h5 : val ((limbs a).take i) * bp (limbs b).length < bp i * bp (limbs b).length := Int.mul_lt_mul_of_pos_right h1 (bp_pos _)
  omega
theorem val_lt_zeros {l : List Int} (h : IsL l) {m : Nat} (hz : ∀ p, m ≤ p → l.getD p 0 = 0) : val l < bp m := by
  by_cases hm : m ≤ l.length
  · have h1 := val_drop l m hm
    have h2 : l.drop m = List.replicate (l.length - m) 0 := by
      apply List.ext_getElem?
      intro i
      rw [List.getElem?_drop, List.getElem?_replicate]
      by_cases hi : m + i < l.length
      · have := hz (m + i) (by omega)
        rw [List.getD_eq_getElem?_getD, List.getElem?_eq_getElem hi] at this
        rw [List.getElem?_eq_getElem hi, if_pos (by omega)]
        simpa using this
      · rw [List.getElem?_eq_none (by omega), if_neg (by omega)]
    rw [h2, val_replicate_zero] at h1
    have h3 : val (l.take m) < bp m := Int.lt_of_lt_of_le (val_lt (h.take m)) (bp_mono (by rw [List.length_take]; omega))
    omega
  · exact Int.lt_of_lt_of_le (val_lt h) (bp_mono (by omega))
end Go.Proofs.Ytnndjbomfcacfaa
