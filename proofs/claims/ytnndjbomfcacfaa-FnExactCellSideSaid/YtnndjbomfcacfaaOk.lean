/- Whether a whole number, a fraction is valid: the program's and the reference's. -/
import Derived.Test.YtnndjbomfcacfaaRt
import Derived.Test.YtnndjbomfcacfaaNatH
namespace Go.Proofs.Ytnndjbomfcacfaa
open Go.RowKit
noncomputable def bigOkB (x : QZ) : Bool := natOkB x.2 && !(x.1 && decide (x.2.length = 0))
theorem bigOk_no {x : QZ} (h : natOkB x.2 = false) : bigOkB x = false := by unfold bigOkB; rw [h]; rfl
theorem bigOk_pos {x : QZ} (h : natOkB x.2 = true) (hs : x.1 = false) : bigOkB x = true := by unfold bigOkB; rw [h, hs]; rfl
theorem bigOk_nil {x : QZ} (h : natOkB x.2 = true) (hs : x.1 = true) (h0 : 0 = x.2.length) : bigOkB x = false := by unfold bigOkB; rw [h, hs, ← h0]; rfl
theorem bigOk_neg {x : QZ} (h : natOkB x.2 = true) (h0 : x.2.length ≠ 0) : bigOkB x = true := by unfold bigOkB; rw [h, decide_eq_false h0]; simp
theorem bigOk_out {x : QZ} (h : bigOkB x = true) : ∃ m, x.2 = limbs m ∧ (x.1 = true → m ≠ 0) ∧ x.2.length ≤ 60 := by
  unfold bigOkB at h
  rw [Bool.and_eq_true] at h
  obtain ⟨h1, m, hm⟩ := natOk_out h.1
  refine ⟨m, hm, fun hs => ?_, h1⟩
  rintro rfl
  rw [hs, hm, limbs_zero] at h
  simp at h
open Classical in
noncomputable def ratOkB (x : QR) : Bool := decide (∃ f, Good f ∧ x = encR f)
theorem ratOk_iff {x : QR} : ratOkB x = true ↔ ∃ f, Good f ∧ x = encR f := by unfold ratOkB; simp
theorem ratOk_not {x : QR} (h : ¬ ∃ f, Good f ∧ x = encR f) : ratOkB x = false := Bool.eq_false_iff.2 (fun k => h (ratOk_iff.1 k))
theorem ratOk_parts {x : QR} (h : ratOkB x = true) : bigOkB x.1 = true ∧ natOkB x.2 = true ∧ x.2.length ≠ 0 ∧ x.1.2.length ≤ 24 ∧ x.2.length ≤ 24 := by
  obtain ⟨f, ⟨h1, h2, h3, h4⟩, rfl⟩ := ratOk_iff.1 h
  have h3' := sm_iff.1 h3
  have h4' := sm_iff.1 h4
  refine ⟨?_, natOk_limbs (Nat.le_trans h4' (by decide)), fun e => h1 (limbs_nil.1 (List.eq_nil_of_length_eq_zero e)), h3', h4'⟩
  unfold bigOkB
  rw [Bool.and_eq_true]
  refine ⟨natOk_limbs (Nat.le_trans h3' (by decide)), ?_⟩
  show (!(decide (f.1 < 0) && decide ((limbs f.1.natAbs).length = 0))) = true
  by_cases hz : (limbs f.1.natAbs).length = 0
  · have := limbs_nil.1 (List.eq_nil_of_length_eq_zero hz)
    have : ¬ f.1 < 0 := by omega
    simp [this]
  · simp [hz]
theorem ratOk_gcd {s : Bool} {m d : Nat} (hs : s = true → m ≠ 0) (hd : d ≠ 0) (h1 : (limbs m).length ≤ 24) (h2 : (limbs d).length ≤ 24) : ratOkB ((s, limbs m), limbs d) = decide (Nat.gcd m d = 1) := by
  by_cases hg : Nat.gcd m d = 1
  · rw [decide_eq_true hg, ratOk_iff]
    refine ⟨(sgn s m, d), ⟨hd, by rw [natAbs_sgn]; exact hg, by rw [natAbs_sgn]; exact sm_iff.2 h1, sm_iff.2 h2⟩, ?_⟩
    unfold encR
    rw [encZ_sgn]
    cases s
    · rfl
    · simp [hs rfl]
  · rw [decide_eq_false hg]
    refine ratOk_not ?_
    rintro ⟨f, ⟨_, h4, _, _⟩, he⟩
    have e1 := limbs_inj (congrArg (fun y : QR => y.1.2) he)
    have e2 := limbs_inj (congrArg (fun y : QR => y.2) he)
    rw [← e1, ← e2] at h4
    exact hg h4
/-- What is valid is a fraction's. -/
theorem ratOk_fr {x : QR} (h : ratOkB x = true) : ∃ f, Good f ∧ x = encR f := ratOk_iff.1 h
end Go.Proofs.Ytnndjbomfcacfaa
