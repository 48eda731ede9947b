/- Natural numbers as limbs: whether a list is one; the greatest common divisor: the program's and the reference's. -/
import Derived.Test.YtnndjbomfcacfaaNatF
import Derived.Test.YtnndjbomfcacfaaGVec
import Derived.Test.YtnndjbomfcacfaaGNum
namespace Go.Proofs.Ytnndjbomfcacfaa
open Go.RowKit
theorem natOk_iff {l : List Int} : natOkB l = true ↔ l.length ≤ 60 ∧ Can l := by unfold natOkB; simp
theorem natOk_not {l : List Int} (h : ¬ (l.length ≤ 60 ∧ Can l)) : natOkB l = false := Bool.eq_false_iff.2 (fun k => h (natOk_iff.1 k))
def badL (x : Int) : Bool := !inR x 0 999999999
theorem badL_any {l : List Int} : l.any badL = false ↔ IsL l := by
  rw [List.any_eq_false]
  constructor
  · intro h d hd
    have := h d hd
    simp [badL, inR_iff] at this
    omega
  · intro h d hd
    have := h d hd
    simp [badL, inR_iff]
    omega
theorem natOk_long {l : List Int} (h : 60 < l.length) : natOkB l = false := by
  exact natOk_not (fun k => by omega)
theorem natOk_bad {l : List Int} (h : l.any badL = true) : natOkB l = false := by
  refine natOk_not (fun k => ?_)
  rw [badL_any.2 k.2.1] at h
  cases h
theorem natOk_nil : natOkB [] = true := by
  exact natOk_iff.2 ⟨by simp, Can.nil⟩
theorem natOk_last {l : List Int} (h : l.length ≤ 60) (hb : l.any badL = false) {x : Int} (hx : l[l.length - 1]? = some x) : natOkB l = !(x == 0) := by
  have hl := badL_any.1 hb
  rcases List.eq_nil_or_concat l with rfl | ⟨a, d, rfl⟩
  · simp at hx
  · simp at hx
    subst hx
    rw [List.concat_eq_append] at hl h ⊢
    by_cases hd : d = 0
    · subst hd
      simp only [beq_self_eq_true, Bool.not_true]
      exact natOk_not (fun k => ((can_iff_last hl).1 k.2) rfl)
    · have : (d == 0) = false := by simp [hd]
      rw [this]
      exact natOk_iff.2 ⟨h, (can_iff_last hl).2 hd⟩
theorem natOk_limbs {n : Nat} (h : (limbs n).length ≤ 60) : natOkB (limbs n) = true := by
  exact natOk_iff.2 ⟨h, limbs_can n⟩
theorem natOk_out {l : List Int} (h : natOkB l = true) : l.length ≤ 60 ∧ ∃ n, l = limbs n := by
  have := natOk_iff.1 h
  exact ⟨this.1, _, can_of this.2⟩
/-! ### What a slice of limbs is the number of -/
theorem ints_inj {w : World} {v : Value} {l m : List Int} (h : tInts.at w [v] l) (k : tInts.at w [v] m) : l = m := by
  obtain ⟨ao, cap, rfl⟩ := sl_len h
  obtain ⟨ao', cap', e⟩ := sl_len k
  simp at e
  obtain ⟨rfl, hl, rfl⟩ := e
  rw [hl] at h
  apply List.ext_getElem?
  intro i
  by_cases hi : i < m.length
  · obtain ⟨b, off, x, e1, _, hx, _, c0⟩ := int_el h (k := i) (by omega)
    obtain ⟨b', off', y, e2, _, hy, _, d0⟩ := int_el k (k := i) hi
    rw [e1] at e2
    simp at e2
    obtain ⟨rfl, rfl⟩ := e2
    rw [c0] at d0
    simp at d0
    rw [hx, hy, d0]
  · rw [List.getElem?_eq_none (by omega), List.getElem?_eq_none (by omega)]
open Classical in
noncomputable def natIn (w : World) (v : Value) : Nat := if h : ∃ y, tInts.at w [v] (limbs y) then Classical.choose h else 0
theorem natIn_eq {w : World} {v : Value} {y : Nat} (h : tInts.at w [v] (limbs y)) : natIn w v = y := by
  have he : ∃ y, tInts.at w [v] (limbs y) := ⟨y, h⟩
  unfold natIn
  rw [dif_pos he]
  exact limbs_inj (ints_inj (Classical.choose_spec he) h)
theorem limbs1_lt {y : Nat} (h : (limbs y).length ≤ 1) : y < 1000000000 := by
  have h2 := limbs_len_le (n := y) (k := 1).1 h
  have h3 : bp 1 = 1000000000 := by decide
  omega
end Go.Proofs.Ytnndjbomfcacfaa
