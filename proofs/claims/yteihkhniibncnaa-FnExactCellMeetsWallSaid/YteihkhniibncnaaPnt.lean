/- Points: valid ones. -/
import Derived.Test.YteihkhniibncnaaGInt
namespace Go.Proofs.Yteihkhniibncnaa
open Go.RowKit
noncomputable def pointB (x : QP) : Bool := ratOkB x.1 && ratOkB x.2
/-- Valid fractions that compare as equal are the same. -/
theorem good_eq {f g : Fr} (hf : Good f) (hg : Good g) (h : f.1 * (g.2 : Int) = g.1 * (f.2 : Int)) : f = g := by
  have h1 : f.1.natAbs * g.2 = g.1.natAbs * f.2 := by
    have := congrArg Int.natAbs h
    rwa [Int.natAbs_mul, Int.natAbs_mul, Int.natAbs_natCast, Int.natAbs_natCast] at this
  have d1 : f.2 ∣ g.2 := (Nat.Coprime.symm hf.2.1 : Nat.Coprime f.2 f.1.natAbs).dvd_of_dvd_mul_left (h1 ▸ Nat.dvd_mul_left _ _)
  have d2 : g.2 ∣ f.2 := (Nat.Coprime.symm hg.2.1 : Nat.Coprime g.2 g.1.natAbs).dvd_of_dvd_mul_left (h1 ▸ Nat.dvd_mul_left _ _)
  have e2 := Nat.dvd_antisymm d1 d2
  have hz : (f.2 : Int) ≠ 0 := by have := hf.1; omega
  rw [← e2] at h
  have e1 := Int.eq_of_mul_eq_mul_right hz h
  exact Prod.ext e1 e2
theorem rCmp_zero {x y : QR} (hx : ratOkB x = true) (hy : ratOkB y = true) : rCmp x y = 0 ↔ x = y := by
  obtain ⟨f, h1, rfl⟩ := ratOk_fr hx
  obtain ⟨g, h2, rfl⟩ := ratOk_fr hy
  unfold rCmp
  rw [frOf_good h1, frOf_good h2, frCmp, if_neg (fun h => h.elim h1.1 h2.1), cmpI_zero]
  exact ⟨fun h => by rw [good_eq h1 h2 h], fun h => by rw [encR_inj h]⟩
noncomputable def badP (x : QP) : Bool := !pointB x
theorem pointB_parts {s t : QR} (h : pointB (s, t) = true) : ratOkB s = true ∧ ratOkB t = true := by
  unfold pointB at h
  rw [Bool.and_eq_true] at h
  exact h
end Go.Proofs.Yteihkhniibncnaa
