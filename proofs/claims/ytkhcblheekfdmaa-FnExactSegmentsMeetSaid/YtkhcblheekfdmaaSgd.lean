/- Whether segments meet. -/
import Derived.Test.YtkhcblheekfdmaaThn
import Derived.Test.YtkhcblheekfdmaaSid
import Derived.Test.YtkhcblheekfdmaaBtw
namespace Go.Proofs.Ytkhcblheekfdmaa
open Go.RowKit
noncomputable def meetB (a b c d : QP) : Bool := (decide (sideF a b c * sideF a b d < 0) && decide (sideF c d a * sideF c d b < 0)) || ((sideF a b c == 0 && spanPB c a b) || ((sideF a b d == 0 && spanPB d a b) || ((sideF c d a == 0 && spanPB a c d) || (sideF c d b == 0 && spanPB b c d))))
noncomputable def segB (a b c d : QP) : Bool := pointB a && (pointB b && (pointB c && (pointB d && meetB a b c d)))
theorem sideF_range (a b c : QP) : -1 ≤ sideF a b c ∧ sideF a b c ≤ 1 := frSign_range _
theorem wrap_mul1 {s t : Int} (hs : -1 ≤ s ∧ s ≤ 1) (ht : -1 ≤ t ∧ t ≤ 1) : IntKind.i64.wrap (s * t) = s * t := by
  rw [IntKind.wrap_i64]
  rcases (show s = -1 ∨ s = 0 ∨ s = 1 by omega) with h | h | h <;> rw [h] <;> omega
set_option linter.unusedVariables false in
theorem meet_tree : ∀ p q o1 o2 o3 o4 x1 x2 x3 x4 : Bool, (o1 = true ∧ x1 = true) ∨ (o1 = true ∧ x1 = false ∧ o2 = true ∧ x2 = true) ∨ (o1 = true ∧ x1 = false ∧ o2 = true ∧ x2 = false ∧ o3 = true ∧ x3 = true) ∨ (o1 = true ∧ x1 = false ∧ o2 = true ∧ x2 = false ∧ o3 = true ∧ x3 = false ∧ o4 = true ∧ x4 = true) ∨ (o1 = true ∧ x1 = false ∧ o2 = true ∧ x2 = false ∧ o3 = true ∧ x3 = false ∧ o4 = true ∧ x4 = false ∧ p = false) ∨ (o1 = true ∧ x1 = false ∧ o2 = true ∧ x2 = false ∧ o3 = true ∧ x3 = false ∧ o4 = true ∧ x4 = false ∧ p = true ∧ q = false) ∨ (o1 = true ∧ x1 = false ∧ o2 = true ∧ x2 = false ∧ o3 = true ∧ x3 = false ∧ o4 = true ∧ x4 = false ∧ p = true ∧ q = true) ∨ (o1 = true ∧ x1 = false ∧ o2 = true ∧ x2 = false ∧ o3 = true ∧ x3 = false ∧ o4 = false ∧ p = false) ∨ (o1 = true ∧ x1 = false ∧ o2 = true ∧ x2 = false ∧ o3 = true ∧ x3 = false ∧ o4 = false ∧ p = true ∧ q = false) ∨ (o1 = true ∧ x1 = false ∧ o2 = true ∧ x2 = false ∧ o3 = true ∧ x3 = false ∧ o4 = false ∧ p = true ∧ q = true) ∨ (o1 = true ∧ x1 = false ∧ o2 = true ∧ x2 = false ∧ o3 = false ∧ o4 = true ∧ x4 = true) ∨ (o1 = true ∧ x1 = false ∧ o2 = true ∧ x2 = false ∧ o3 = false ∧ o4 = true ∧ x4 = false ∧ p = false) ∨ (o1 = true ∧ x1 = false ∧ o2 = true ∧ x2 = false ∧ o3 = false ∧ o4 = true ∧ x4 = false ∧ p = true ∧ q = false) ∨ (o1 = true ∧ x1 = false ∧ o2 = true ∧ x2 = false ∧ o3 = false ∧ o4 = true ∧ x4 = false ∧ p = true ∧ q = true) ∨ (o1 = true ∧ x1 = false ∧ o2 = true ∧ x2 = false ∧ o3 = false ∧ o4 = false ∧ p = false) ∨ (o1 = true ∧ x1 = false ∧ o2 = true ∧ x2 = false ∧ o3 = false ∧ o4 = false ∧ p = true ∧ q = false) ∨ (o1 = true ∧ x1 = false ∧ o2 = true ∧ x2 = false ∧ o3 = false ∧ o4 = false ∧ p = true ∧ q = true) ∨ (o1 = true ∧ x1 = false ∧ o2 = false ∧ o3 = true ∧ x3 = true) ∨ (o1 = true ∧ x1 = false ∧ o2 = false ∧ o3 = true ∧ x3 = false ∧ o4 = true ∧ x4 = true) ∨ (o1 = true ∧ x1 = false ∧ o2 = false ∧ o3 = true ∧ x3 = false ∧ o4 = true ∧ x4 = false ∧ p = false) ∨ (o1 = true ∧ x1 = false ∧ o2 = false ∧ o3 = true ∧ x3 = false ∧ o4 = true ∧ x4 = false ∧ p = true ∧ q = false) ∨ (o1 = true ∧ x1 = false ∧ o2 = false ∧ o3 = true ∧ x3 = false ∧ o4 = true ∧ x4 = false ∧ p = true ∧ q = true) ∨ (o1 = true ∧ x1 = false ∧ o2 = false ∧ o3 = true ∧ x3 = false ∧ o4 = false ∧ p = false) ∨ (o1 = true ∧ x1 = false ∧ o2 = false ∧ o3 = true ∧ x3 = false ∧ o4 = false ∧ p = true ∧ q = false) ∨ (o1 = true ∧ x1 = false ∧ o2 = false ∧ o3 = true ∧ x3 = false ∧ o4 = false ∧ p = true ∧ q = true) ∨ (o1 = true ∧ x1 = false ∧ o2 = false ∧ o3 = false ∧ o4 = true ∧ x4 = true) ∨ (o1 = true ∧ x1 = false ∧ o2 = false ∧ o3 = false ∧ o4 = true ∧ x4 = false ∧ p = false) ∨ (o1 = true ∧ x1 = false ∧ o2 = false ∧ o3 = false ∧ o4 = true ∧ x4 = false ∧ p = true ∧ q = false) ∨ (o1 = true ∧ x1 = false ∧ o2 = false ∧ o3 = false ∧ o4 = true ∧ x4 = false ∧ p = true ∧ q = true) ∨ (o1 = true ∧ x1 = false ∧ o2 = false ∧ o3 = false ∧ o4 = false ∧ p = false) ∨ (o1 = true ∧ x1 = false ∧ o2 = false ∧ o3 = false ∧ o4 = false ∧ p = true ∧ q = false) ∨ (o1 = true ∧ x1 = false ∧ o2 = false ∧ o3 = false ∧ o4 = false ∧ p = true ∧ q = true) ∨ (o1 = false ∧ o2 = true ∧ x2 = true) ∨ (o1 = false ∧ o2 = true ∧ x2 = false ∧ o3 = true ∧ x3 = true) ∨ (o1 = false ∧ o2 = true ∧ x2 = false ∧ o3 = true ∧ x3 = false ∧ o4 = true ∧ x4 = true) ∨ (o1 = false ∧ o2 = true ∧ x2 = false ∧ o3 = true ∧ x3 = false ∧ o4 = true ∧ x4 = false ∧ p = false) ∨ (o1 = false ∧ o2 = true ∧ x2 = false ∧ o3 = true ∧ x3 = false ∧ o4 = true ∧ x4 = false ∧ p = true ∧ q = false) ∨ (o1 = false ∧ o2 = true ∧ x2 = false ∧ o3 = true ∧ x3 = false ∧ o4 = true ∧ x4 = false ∧ p = true ∧ q = true) ∨ (o1 = false ∧ o2 = true ∧ x2 = false ∧ o3 = true ∧ x3 = false ∧ o4 = false ∧ p = false) ∨ (o1 = false ∧ o2 = true ∧ x2 = false ∧ o3 = true ∧ x3 = false ∧ o4 = false ∧ p = true ∧ q = false) ∨ (o1 = false ∧ o2 = true ∧ x2 = false ∧ o3 = true ∧ x3 = false ∧ o4 = false ∧ p = true ∧ q = true) ∨ (o1 = false ∧ o2 = true ∧ x2 = false ∧ o3 = false ∧ o4 = true ∧ x4 = true) ∨ (o1 = false ∧ o2 = true ∧ x2 = false ∧ o3 = false ∧ o4 = true ∧ x4 = false ∧ p = false) ∨ (o1 = false ∧ o2 = true ∧ x2 = false ∧ o3 = false ∧ o4 = true ∧ x4 = false ∧ p = true ∧ q = false) ∨ (o1 = false ∧ o2 = true ∧ x2 = false ∧ o3 = false ∧ o4 = true ∧ x4 = false ∧ p = true ∧ q = true) ∨ (o1 = false ∧ o2 = true ∧ x2 = false ∧ o3 = false ∧ o4 = false ∧ p = false) ∨ (o1 = false ∧ o2 = true ∧ x2 = false ∧ o3 = false ∧ o4 = false ∧ p = true ∧ q = false) ∨ (o1 = false ∧ o2 = true ∧ x2 = false ∧ o3 = false ∧ o4 = false ∧ p = true ∧ q = true) ∨ (o1 = false ∧ o2 = false ∧ o3 = true ∧ x3 = true) ∨ (o1 = false ∧ o2 = false ∧ o3 = true ∧ x3 = false ∧ o4 = true ∧ x4 = true) ∨ (o1 = false ∧ o2 = false ∧ o3 = true ∧ x3 = false ∧ o4 = true ∧ x4 = false ∧ p = false) ∨ (o1 = false ∧ o2 = false ∧ o3 = true ∧ x3 = false ∧ o4 = true ∧ x4 = false ∧ p = true ∧ q = false) ∨ (o1 = false ∧ o2 = false ∧ o3 = true ∧ x3 = false ∧ o4 = true ∧ x4 = false ∧ p = true ∧ q = true) ∨ (o1 = false ∧ o2 = false ∧ o3 = true ∧ x3 = false ∧ o4 = false ∧ p = false) ∨ (o1 = false ∧ o2 = false ∧ o3 = true ∧ x3 = false ∧ o4 = false ∧ p = true ∧ q = false) ∨ (o1 = false ∧ o2 = false ∧ o3 = true ∧ x3 = false ∧ o4 = false ∧ p = true ∧ q = true) ∨ (o1 = false ∧ o2 = false ∧ o3 = false ∧ o4 = true ∧ x4 = true) ∨ (o1 = false ∧ o2 = false ∧ o3 = false ∧ o4 = true ∧ x4 = false ∧ p = false) ∨ (o1 = false ∧ o2 = false ∧ o3 = false ∧ o4 = true ∧ x4 = false ∧ p = true ∧ q = false) ∨ (o1 = false ∧ o2 = false ∧ o3 = false ∧ o4 = true ∧ x4 = false ∧ p = true ∧ q = true) ∨ (o1 = false ∧ o2 = false ∧ o3 = false ∧ o4 = false ∧ p = false) ∨ (o1 = false ∧ o2 = false ∧ o3 = false ∧ o4 = false ∧ p = true ∧ q = false) ∨ (o1 = false ∧ o2 = false ∧ o3 = false ∧ o4 = false ∧ p = true ∧ q = true) := by
  intro p q o1 o2 o3 o4 x1 x2 x3 x4
  cases o1 with
  | false =>
    cases o2 with
    | false =>
      cases o3 with
      | false =>
        cases o4 with
        | false =>
          cases p with
          | false =>
            exact Or.inr (Or.inr (Or.inr (Or.inr (Or.inr (Or.inr (Or.inr (Or.inr (Or.inr (Or.inr (Or.inr (Or.inr (Or.inr (Or.inr (Or.inr (Or.inr (Or.inr (Or.inr (Or.inr (Or.inr (Or.inr (Or.inr (Or.inr (Or.inr (Or.inr (Or.inr (Or.inr (Or.inr (Or.inr (Or.inr (Or.inr (Or.inr (Or.inr (Or.inr (Or.inr (Or.inr (Or.inr (Or.inr (Or.inr (Or.inr (Or.inr (Or.inr (Or.inr (Or.inr (Or.inr (Or.inr (Or.inr (Or.inr (Or.inr (Or.inr (Or.inr (Or.inr (Or.inr (Or.inr (Or.inr (Or.inr (Or.inr (Or.inr (Or.inr (Or.inr (Or.inl ⟨rfl, rfl, rfl, rfl, rfl⟩))))))))))))))))))))))))))))))))))))))))))))))))))))))))))))
          | true =>
            cases q with
            | false =>
              exact Or.inr (Or.inr (Or.inr (Or.inr (Or.inr (Or.inr (Or.inr (Or.inr (Or.inr (Or.inr (Or.inr (Or.inr (Or.inr (Or.inr (Or.inr (Or.inr (Or.inr (Or.inr (Or.inr (Or.inr (Or.inr (Or.inr (Or.inr (Or.inr (Or.inr (Or.inr (Or.inr (Or.inr (Or.inr (Or.inr (Or.inr (Or.inr (Or.inr (Or.inr (Or.inr (Or.inr (Or.inr (Or.inr (Or.inr (Or.inr (Or.inr (Or.inr (Or.inr (Or.inr (Or.inr (Or.inr (Or.inr (Or.inr (Or.inr (Or.inr (Or.inr (Or.inr (Or.inr (Or.inr (Or.inr (Or.inr (Or.inr (Or.inr (Or.inr (Or.inr (Or.inr (Or.inl ⟨rfl, rfl, rfl, rfl, rfl, rfl⟩)))))))))))))))))))))))))))))))))))))))))))))))))))))))))))))
            | true =>
              exact Or.inr (Or.inr (Or.inr (Or.inr (Or.inr (Or.inr (Or.inr (Or.inr (Or.inr (Or.inr (Or.inr (Or.inr (Or.inr (Or.inr (Or.inr (Or.inr (Or.inr (Or.inr (Or.inr (Or.inr (Or.inr (Or.inr (Or.inr (Or.inr (Or.inr (Or.inr (Or.inr (Or.inr (Or.inr (Or.inr (Or.inr (Or.inr (Or.inr (Or.inr (Or.inr (Or.inr (Or.inr (Or.inr (Or.inr (Or.inr (Or.inr (Or.inr (Or.inr (Or.inr (Or.inr (Or.inr (Or.inr (Or.inr (Or.inr (Or.inr (Or.inr (Or.inr (Or.inr (Or.inr (Or.inr (Or.inr (Or.inr (Or.inr (Or.inr (Or.inr (Or.inr (Or.inr (⟨rfl, rfl, rfl, rfl, rfl, rfl⟩))))))))))))))))))))))))))))))))))))))))))))))))))))))))))))))
        | true =>
          cases x4 with
          | false =>
            cases p with
            | false =>
              exact Or.inr (Or.inr (Or.inr (Or.inr (Or.inr (Or.inr (Or.inr (Or.inr (Or.inr (Or.inr (Or.inr (Or.inr (Or.inr (Or.inr (Or.inr (Or.inr (Or.inr (Or.inr (Or.inr (Or.inr (Or.inr (Or.inr (Or.inr (Or.inr (Or.inr (Or.inr (Or.inr (Or.inr (Or.inr (Or.inr (Or.inr (Or.inr (Or.inr (Or.inr (Or.inr (Or.inr (Or.inr (Or.inr (Or.inr (Or.inr (Or.inr (Or.inr (Or.inr (Or.inr (Or.inr (Or.inr (Or.inr (Or.inr (Or.inr (Or.inr (Or.inr (Or.inr (Or.inr (Or.inr (Or.inr (Or.inr (Or.inr (Or.inl ⟨rfl, rfl, rfl, rfl, rfl, rfl⟩)))))))))))))))))))))))))))))))))))))))))))))))))))))))))
            | true =>
              cases q with
              | false =>
                exact Or.inr (Or.inr (Or.inr (Or.inr (Or.inr (Or.inr (Or.inr (Or.inr (Or.inr (Or.inr (Or.inr (Or.inr (Or.inr (Or.inr (Or.inr (Or.inr (Or.inr (Or.inr (Or.inr (Or.inr (Or.inr (Or.inr (Or.inr (Or.inr (Or.inr (Or.inr (Or.inr (Or.inr (Or.inr (Or.inr (Or.inr (Or.inr (Or.inr (Or.inr (Or.inr (Or.inr (Or.inr (Or.inr (Or.inr (Or.inr (Or.inr (Or.inr (Or.inr (Or.inr (Or.inr (Or.inr (Or.inr (Or.inr (Or.inr (Or.inr (Or.inr (Or.inr (Or.inr (Or.inr (Or.inr (Or.inr (Or.inr (Or.inr (Or.inl ⟨rfl, rfl, rfl, rfl, rfl, rfl, rfl⟩))))))))))))))))))))))))))))))))))))))))))))))))))))))))))
              | true =>
                exact Or.inr (Or.inr (Or.inr (Or.inr (Or.inr (Or.inr (Or.inr (Or.inr (Or.inr (Or.inr (Or.inr (Or.inr (Or.inr (Or.inr (Or.inr (Or.inr (Or.inr (Or.inr (Or.inr (Or.inr (Or.inr (Or.inr (Or.inr (Or.inr (Or.inr (Or.inr (Or.inr (Or.inr (Or.inr (Or.inr (Or.inr (Or.inr (Or.inr (Or.inr (Or.inr (Or.inr (Or.inr (Or.inr (Or.inr (Or.inr (Or.inr (Or.inr (Or.inr (Or.inr (Or.inr (Or.inr (Or.inr (Or.inr (Or.inr (Or.inr (Or.inr (Or.inr (Or.inr (Or.inr (Or.inr (Or.inr (Or.inr (Or.inr (Or.inr (Or.inl ⟨rfl, rfl, rfl, rfl, rfl, rfl, rfl⟩)))))))))))))))))))))))))))))))))))))))))))))))))))))))))))
          | true =>
            exact Or.inr (Or.inr (Or.inr (Or.inr (Or.inr (Or.inr (Or.inr (Or.inr (Or.inr (Or.inr (Or.inr (Or.inr (Or.inr (Or.inr (Or.inr (Or.inr (Or.inr (Or.inr (Or.inr (Or.inr (Or.inr (Or.inr (Or.inr (Or.inr (Or.inr (Or.inr (Or.inr (Or.inr (Or.inr (Or.inr (Or.inr (Or.inr (Or.inr (Or.inr (Or.inr (Or.inr (Or.inr (Or.inr (Or.inr (Or.inr (Or.inr (Or.inr (Or.inr (Or.inr (Or.inr (Or.inr (Or.inr (Or.inr (Or.inr (Or.inr (Or.inr (Or.inr (Or.inr (Or.inr (Or.inr (Or.inr (Or.inl ⟨rfl, rfl, rfl, rfl, rfl⟩))))))))))))))))))))))))))))))))))))))))))))))))))))))))
      | true =>
        cases x3 with
        | false =>
          cases o4 with
          | false =>
            cases p with
            | false =>
              exact Or.inr (Or.inr (Or.inr (Or.inr (Or.inr (Or.inr (Or.inr (Or.inr (Or.inr (Or.inr (Or.inr (Or.inr (Or.inr (Or.inr (Or.inr (Or.inr (Or.inr (Or.inr (Or.inr (Or.inr (Or.inr (Or.inr (Or.inr (Or.inr (Or.inr (Or.inr (Or.inr (Or.inr (Or.inr (Or.inr (Or.inr (Or.inr (Or.inr (Or.inr (Or.inr (Or.inr (Or.inr (Or.inr (Or.inr (Or.inr (Or.inr (Or.inr (Or.inr (Or.inr (Or.inr (Or.inr (Or.inr (Or.inr (Or.inr (Or.inr (Or.inr (Or.inr (Or.inr (Or.inl ⟨rfl, rfl, rfl, rfl, rfl, rfl⟩)))))))))))))))))))))))))))))))))))))))))))))))))))))
            | true =>
              cases q with
              | false =>
                exact Or.inr (Or.inr (Or.inr (Or.inr (Or.inr (Or.inr (Or.inr (Or.inr (Or.inr (Or.inr (Or.inr (Or.inr (Or.inr (Or.inr (Or.inr (Or.inr (Or.inr (Or.inr (Or.inr (Or.inr (Or.inr (Or.inr (Or.inr (Or.inr (Or.inr (Or.inr (Or.inr (Or.inr (Or.inr (Or.inr (Or.inr (Or.inr (Or.inr (Or.inr (Or.inr (Or.inr (Or.inr (Or.inr (Or.inr (Or.inr (Or.inr (Or.inr (Or.inr (Or.inr (Or.inr (Or.inr (Or.inr (Or.inr (Or.inr (Or.inr (Or.inr (Or.inr (Or.inr (Or.inr (Or.inl ⟨rfl, rfl, rfl, rfl, rfl, rfl, rfl⟩))))))))))))))))))))))))))))))))))))))))))))))))))))))
              | true =>
                exact Or.inr (Or.inr (Or.inr (Or.inr (Or.inr (Or.inr (Or.inr (Or.inr (Or.inr (Or.inr (Or.inr (Or.inr (Or.inr (Or.inr (Or.inr (Or.inr (Or.inr (Or.inr (Or.inr (Or.inr (Or.inr (Or.inr (Or.inr (Or.inr (Or.inr (Or.inr (Or.inr (Or.inr (Or.inr (Or.inr (Or.inr (Or.inr (Or.inr (Or.inr (Or.inr (Or.inr (Or.inr (Or.inr (Or.inr (Or.inr (Or.inr (Or.inr (Or.inr (Or.inr (Or.inr (Or.inr (Or.inr (Or.inr (Or.inr (Or.inr (Or.inr (Or.inr (Or.inr (Or.inr (Or.inr (Or.inl ⟨rfl, rfl, rfl, rfl, rfl, rfl, rfl⟩)))))))))))))))))))))))))))))))))))))))))))))))))))))))
          | true =>
            cases x4 with
            | false =>
              cases p with
              | false =>
                exact Or.inr (Or.inr (Or.inr (Or.inr (Or.inr (Or.inr (Or.inr (Or.inr (Or.inr (Or.inr (Or.inr (Or.inr (Or.inr (Or.inr (Or.inr (Or.inr (Or.inr (Or.inr (Or.inr (Or.inr (Or.inr (Or.inr (Or.inr (Or.inr (Or.inr (Or.inr (Or.inr (Or.inr (Or.inr (Or.inr (Or.inr (Or.inr (Or.inr (Or.inr (Or.inr (Or.inr (Or.inr (Or.inr (Or.inr (Or.inr (Or.inr (Or.inr (Or.inr (Or.inr (Or.inr (Or.inr (Or.inr (Or.inr (Or.inr (Or.inr (Or.inl ⟨rfl, rfl, rfl, rfl, rfl, rfl, rfl⟩))))))))))))))))))))))))))))))))))))))))))))))))))
              | true =>
                cases q with
                | false =>
                  exact Or.inr (Or.inr (Or.inr (Or.inr (Or.inr (Or.inr (Or.inr (Or.inr (Or.inr (Or.inr (Or.inr (Or.inr (Or.inr (Or.inr (Or.inr (Or.inr (Or.inr (Or.inr (Or.inr (Or.inr (Or.inr (Or.inr (Or.inr (Or.inr (Or.inr (Or.inr (Or.inr (Or.inr (Or.inr (Or.inr (Or.inr (Or.inr (Or.inr (Or.inr (Or.inr (Or.inr (Or.inr (Or.inr (Or.inr (Or.inr (Or.inr (Or.inr (Or.inr (Or.inr (Or.inr (Or.inr (Or.inr (Or.inr (Or.inr (Or.inr (Or.inr (Or.inl ⟨rfl, rfl, rfl, rfl, rfl, rfl, rfl, rfl⟩)))))))))))))))))))))))))))))))))))))))))))))))))))
                | true =>
                  exact Or.inr (Or.inr (Or.inr (Or.inr (Or.inr (Or.inr (Or.inr (Or.inr (Or.inr (Or.inr (Or.inr (Or.inr (Or.inr (Or.inr (Or.inr (Or.inr (Or.inr (Or.inr (Or.inr (Or.inr (Or.inr (Or.inr (Or.inr (Or.inr (Or.inr (Or.inr (Or.inr (Or.inr (Or.inr (Or.inr (Or.inr (Or.inr (Or.inr (Or.inr (Or.inr (Or.inr (Or.inr (Or.inr (Or.inr (Or.inr (Or.inr (Or.inr (Or.inr (Or.inr (Or.inr (Or.inr (Or.inr (Or.inr (Or.inr (Or.inr (Or.inr (Or.inr (Or.inl ⟨rfl, rfl, rfl, rfl, rfl, rfl, rfl, rfl⟩))))))))))))))))))))))))))))))))))))))))))))))))))))
            | true =>
              exact Or.inr (Or.inr (Or.inr (Or.inr (Or.inr (Or.inr (Or.inr (Or.inr (Or.inr (Or.inr (Or.inr (Or.inr (Or.inr (Or.inr (Or.inr (Or.inr (Or.inr (Or.inr (Or.inr (Or.inr (Or.inr (Or.inr (Or.inr (Or.inr (Or.inr (Or.inr (Or.inr (Or.inr (Or.inr (Or.inr (Or.inr (Or.inr (Or.inr (Or.inr (Or.inr (Or.inr (Or.inr (Or.inr (Or.inr (Or.inr (Or.inr (Or.inr (Or.inr (Or.inr (Or.inr (Or.inr (Or.inr (Or.inr (Or.inr (Or.inl ⟨rfl, rfl, rfl, rfl, rfl, rfl⟩)))))))))))))))))))))))))))))))))))))))))))))))))
        | true =>
          exact Or.inr (Or.inr (Or.inr (Or.inr (Or.inr (Or.inr (Or.inr (Or.inr (Or.inr (Or.inr (Or.inr (Or.inr (Or.inr (Or.inr (Or.inr (Or.inr (Or.inr (Or.inr (Or.inr (Or.inr (Or.inr (Or.inr (Or.inr (Or.inr (Or.inr (Or.inr (Or.inr (Or.inr (Or.inr (Or.inr (Or.inr (Or.inr (Or.inr (Or.inr (Or.inr (Or.inr (Or.inr (Or.inr (Or.inr (Or.inr (Or.inr (Or.inr (Or.inr (Or.inr (Or.inr (Or.inr (Or.inr (Or.inr (Or.inl ⟨rfl, rfl, rfl, rfl⟩))))))))))))))))))))))))))))))))))))))))))))))))
    | true =>
      cases x2 with
      | false =>
        cases o3 with
        | false =>
          cases o4 with
          | false =>
            cases p with
            | false =>
              exact Or.inr (Or.inr (Or.inr (Or.inr (Or.inr (Or.inr (Or.inr (Or.inr (Or.inr (Or.inr (Or.inr (Or.inr (Or.inr (Or.inr (Or.inr (Or.inr (Or.inr (Or.inr (Or.inr (Or.inr (Or.inr (Or.inr (Or.inr (Or.inr (Or.inr (Or.inr (Or.inr (Or.inr (Or.inr (Or.inr (Or.inr (Or.inr (Or.inr (Or.inr (Or.inr (Or.inr (Or.inr (Or.inr (Or.inr (Or.inr (Or.inr (Or.inr (Or.inr (Or.inr (Or.inr (Or.inl ⟨rfl, rfl, rfl, rfl, rfl, rfl⟩)))))))))))))))))))))))))))))))))))))))))))))
            | true =>
              cases q with
              | false =>
                exact Or.inr (Or.inr (Or.inr (Or.inr (Or.inr (Or.inr (Or.inr (Or.inr (Or.inr (Or.inr (Or.inr (Or.inr (Or.inr (Or.inr (Or.inr (Or.inr (Or.inr (Or.inr (Or.inr (Or.inr (Or.inr (Or.inr (Or.inr (Or.inr (Or.inr (Or.inr (Or.inr (Or.inr (Or.inr (Or.inr (Or.inr (Or.inr (Or.inr (Or.inr (Or.inr (Or.inr (Or.inr (Or.inr (Or.inr (Or.inr (Or.inr (Or.inr (Or.inr (Or.inr (Or.inr (Or.inr (Or.inl ⟨rfl, rfl, rfl, rfl, rfl, rfl, rfl⟩))))))))))))))))))))))))))))))))))))))))))))))
              | true =>
                exact Or.inr (Or.inr (Or.inr (Or.inr (Or.inr (Or.inr (Or.inr (Or.inr (Or.inr (Or.inr (Or.inr (Or.inr (Or.inr (Or.inr (Or.inr (Or.inr (Or.inr (Or.inr (Or.inr (Or.inr (Or.inr (Or.inr (Or.inr (Or.inr (Or.inr (Or.inr (Or.inr (Or.inr (Or.inr (Or.inr (Or.inr (Or.inr (Or.inr (Or.inr (Or.inr (Or.inr (Or.inr (Or.inr (Or.inr (Or.inr (Or.inr (Or.inr (Or.inr (Or.inr (Or.inr (Or.inr (Or.inr (Or.inl ⟨rfl, rfl, rfl, rfl, rfl, rfl, rfl⟩)))))))))))))))))))))))))))))))))))))))))))))))
          | true =>
            cases x4 with
            | false =>
              cases p with
              | false =>
                exact Or.inr (Or.inr (Or.inr (Or.inr (Or.inr (Or.inr (Or.inr (Or.inr (Or.inr (Or.inr (Or.inr (Or.inr (Or.inr (Or.inr (Or.inr (Or.inr (Or.inr (Or.inr (Or.inr (Or.inr (Or.inr (Or.inr (Or.inr (Or.inr (Or.inr (Or.inr (Or.inr (Or.inr (Or.inr (Or.inr (Or.inr (Or.inr (Or.inr (Or.inr (Or.inr (Or.inr (Or.inr (Or.inr (Or.inr (Or.inr (Or.inr (Or.inr (Or.inl ⟨rfl, rfl, rfl, rfl, rfl, rfl, rfl⟩))))))))))))))))))))))))))))))))))))))))))
              | true =>
                cases q with
                | false =>
                  exact Or.inr (Or.inr (Or.inr (Or.inr (Or.inr (Or.inr (Or.inr (Or.inr (Or.inr (Or.inr (Or.inr (Or.inr (Or.inr (Or.inr (Or.inr (Or.inr (Or.inr (Or.inr (Or.inr (Or.inr (Or.inr (Or.inr (Or.inr (Or.inr (Or.inr (Or.inr (Or.inr (Or.inr (Or.inr (Or.inr (Or.inr (Or.inr (Or.inr (Or.inr (Or.inr (Or.inr (Or.inr (Or.inr (Or.inr (Or.inr (Or.inr (Or.inr (Or.inr (Or.inl ⟨rfl, rfl, rfl, rfl, rfl, rfl, rfl, rfl⟩)))))))))))))))))))))))))))))))))))))))))))
                | true =>
                  exact Or.inr (Or.inr (Or.inr (Or.inr (Or.inr (Or.inr (Or.inr (Or.inr (Or.inr (Or.inr (Or.inr (Or.inr (Or.inr (Or.inr (Or.inr (Or.inr (Or.inr (Or.inr (Or.inr (Or.inr (Or.inr (Or.inr (Or.inr (Or.inr (Or.inr (Or.inr (Or.inr (Or.inr (Or.inr (Or.inr (Or.inr (Or.inr (Or.inr (Or.inr (Or.inr (Or.inr (Or.inr (Or.inr (Or.inr (Or.inr (Or.inr (Or.inr (Or.inr (Or.inr (Or.inl ⟨rfl, rfl, rfl, rfl, rfl, rfl, rfl, rfl⟩))))))))))))))))))))))))))))))))))))))))))))
            | true =>
              exact Or.inr (Or.inr (Or.inr (Or.inr (Or.inr (Or.inr (Or.inr (Or.inr (Or.inr (Or.inr (Or.inr (Or.inr (Or.inr (Or.inr (Or.inr (Or.inr (Or.inr (Or.inr (Or.inr (Or.inr (Or.inr (Or.inr (Or.inr (Or.inr (Or.inr (Or.inr (Or.inr (Or.inr (Or.inr (Or.inr (Or.inr (Or.inr (Or.inr (Or.inr (Or.inr (Or.inr (Or.inr (Or.inr (Or.inr (Or.inr (Or.inr (Or.inl ⟨rfl, rfl, rfl, rfl, rfl, rfl⟩)))))))))))))))))))))))))))))))))))))))))
        | true =>
          cases x3 with
          | false =>
            cases o4 with
            | false =>
              cases p with
              | false =>
                exact Or.inr (Or.inr (Or.inr (Or.inr (Or.inr (Or.inr (Or.inr (Or.inr (Or.inr (Or.inr (Or.inr (Or.inr (Or.inr (Or.inr (Or.inr (Or.inr (Or.inr (Or.inr (Or.inr (Or.inr (Or.inr (Or.inr (Or.inr (Or.inr (Or.inr (Or.inr (Or.inr (Or.inr (Or.inr (Or.inr (Or.inr (Or.inr (Or.inr (Or.inr (Or.inr (Or.inr (Or.inr (Or.inr (Or.inl ⟨rfl, rfl, rfl, rfl, rfl, rfl, rfl⟩))))))))))))))))))))))))))))))))))))))
              | true =>
                cases q with
                | false =>
                  exact Or.inr (Or.inr (Or.inr (Or.inr (Or.inr (Or.inr (Or.inr (Or.inr (Or.inr (Or.inr (Or.inr (Or.inr (Or.inr (Or.inr (Or.inr (Or.inr (Or.inr (Or.inr (Or.inr (Or.inr (Or.inr (Or.inr (Or.inr (Or.inr (Or.inr (Or.inr (Or.inr (Or.inr (Or.inr (Or.inr (Or.inr (Or.inr (Or.inr (Or.inr (Or.inr (Or.inr (Or.inr (Or.inr (Or.inr (Or.inl ⟨rfl, rfl, rfl, rfl, rfl, rfl, rfl, rfl⟩)))))))))))))))))))))))))))))))))))))))
                | true =>
                  exact Or.inr (Or.inr (Or.inr (Or.inr (Or.inr (Or.inr (Or.inr (Or.inr (Or.inr (Or.inr (Or.inr (Or.inr (Or.inr (Or.inr (Or.inr (Or.inr (Or.inr (Or.inr (Or.inr (Or.inr (Or.inr (Or.inr (Or.inr (Or.inr (Or.inr (Or.inr (Or.inr (Or.inr (Or.inr (Or.inr (Or.inr (Or.inr (Or.inr (Or.inr (Or.inr (Or.inr (Or.inr (Or.inr (Or.inr (Or.inr (Or.inl ⟨rfl, rfl, rfl, rfl, rfl, rfl, rfl, rfl⟩))))))))))))))))))))))))))))))))))))))))
            | true =>
              cases x4 with
              | false =>
                cases p with
                | false =>
                  exact Or.inr (Or.inr (Or.inr (Or.inr (Or.inr (Or.inr (Or.inr (Or.inr (Or.inr (Or.inr (Or.inr (Or.inr (Or.inr (Or.inr (Or.inr (Or.inr (Or.inr (Or.inr (Or.inr (Or.inr (Or.inr (Or.inr (Or.inr (Or.inr (Or.inr (Or.inr (Or.inr (Or.inr (Or.inr (Or.inr (Or.inr (Or.inr (Or.inr (Or.inr (Or.inr (Or.inl ⟨rfl, rfl, rfl, rfl, rfl, rfl, rfl, rfl⟩)))))))))))))))))))))))))))))))))))
                | true =>
                  cases q with
                  | false =>
                    exact Or.inr (Or.inr (Or.inr (Or.inr (Or.inr (Or.inr (Or.inr (Or.inr (Or.inr (Or.inr (Or.inr (Or.inr (Or.inr (Or.inr (Or.inr (Or.inr (Or.inr (Or.inr (Or.inr (Or.inr (Or.inr (Or.inr (Or.inr (Or.inr (Or.inr (Or.inr (Or.inr (Or.inr (Or.inr (Or.inr (Or.inr (Or.inr (Or.inr (Or.inr (Or.inr (Or.inr (Or.inl ⟨rfl, rfl, rfl, rfl, rfl, rfl, rfl, rfl, rfl⟩))))))))))))))))))))))))))))))))))))
                  | true =>
                    exact Or.inr (Or.inr (Or.inr (Or.inr (Or.inr (Or.inr (Or.inr (Or.inr (Or.inr (Or.inr (Or.inr (Or.inr (Or.inr (Or.inr (Or.inr (Or.inr (Or.inr (Or.inr (Or.inr (Or.inr (Or.inr (Or.inr (Or.inr (Or.inr (Or.inr (Or.inr (Or.inr (Or.inr (Or.inr (Or.inr (Or.inr (Or.inr (Or.inr (Or.inr (Or.inr (Or.inr (Or.inr (Or.inl ⟨rfl, rfl, rfl, rfl, rfl, rfl, rfl, rfl, rfl⟩)))))))))))))))))))))))))))))))))))))
              | true =>
                exact Or.inr (Or.inr (Or.inr (Or.inr (Or.inr (Or.inr (Or.inr (Or.inr (Or.inr (Or.inr (Or.inr (Or.inr (Or.inr (Or.inr (Or.inr (Or.inr (Or.inr (Or.inr (Or.inr (Or.inr (Or.inr (Or.inr (Or.inr (Or.inr (Or.inr (Or.inr (Or.inr (Or.inr (Or.inr (Or.inr (Or.inr (Or.inr (Or.inr (Or.inr (Or.inl ⟨rfl, rfl, rfl, rfl, rfl, rfl, rfl⟩))))))))))))))))))))))))))))))))))
          | true =>
            exact Or.inr (Or.inr (Or.inr (Or.inr (Or.inr (Or.inr (Or.inr (Or.inr (Or.inr (Or.inr (Or.inr (Or.inr (Or.inr (Or.inr (Or.inr (Or.inr (Or.inr (Or.inr (Or.inr (Or.inr (Or.inr (Or.inr (Or.inr (Or.inr (Or.inr (Or.inr (Or.inr (Or.inr (Or.inr (Or.inr (Or.inr (Or.inr (Or.inr (Or.inl ⟨rfl, rfl, rfl, rfl, rfl⟩)))))))))))))))))))))))))))))))))
      | true =>
        exact Or.inr (Or.inr (Or.inr (Or.inr (Or.inr (Or.inr (Or.inr (Or.inr (Or.inr (Or.inr (Or.inr (Or.inr (Or.inr (Or.inr (Or.inr (Or.inr (Or.inr (Or.inr (Or.inr (Or.inr (Or.inr (Or.inr (Or.inr (Or.inr (Or.inr (Or.inr (Or.inr (Or.inr (Or.inr (Or.inr (Or.inr (Or.inr (Or.inl ⟨rfl, rfl, rfl⟩))))))))))))))))))))))))))))))))
  | true =>
    cases x1 with
    | false =>
      cases o2 with
      | false =>
        cases o3 with
        | false =>
          cases o4 with
          | false =>
            cases p with
            | false =>
              exact Or.inr (Or.inr (Or.inr (Or.inr (Or.inr (Or.inr (Or.inr (Or.inr (Or.inr (Or.inr (Or.inr (Or.inr (Or.inr (Or.inr (Or.inr (Or.inr (Or.inr (Or.inr (Or.inr (Or.inr (Or.inr (Or.inr (Or.inr (Or.inr (Or.inr (Or.inr (Or.inr (Or.inr (Or.inr (Or.inl ⟨rfl, rfl, rfl, rfl, rfl, rfl⟩)))))))))))))))))))))))))))))
            | true =>
              cases q with
              | false =>
                exact Or.inr (Or.inr (Or.inr (Or.inr (Or.inr (Or.inr (Or.inr (Or.inr (Or.inr (Or.inr (Or.inr (Or.inr (Or.inr (Or.inr (Or.inr (Or.inr (Or.inr (Or.inr (Or.inr (Or.inr (Or.inr (Or.inr (Or.inr (Or.inr (Or.inr (Or.inr (Or.inr (Or.inr (Or.inr (Or.inr (Or.inl ⟨rfl, rfl, rfl, rfl, rfl, rfl, rfl⟩))))))))))))))))))))))))))))))
              | true =>
                exact Or.inr (Or.inr (Or.inr (Or.inr (Or.inr (Or.inr (Or.inr (Or.inr (Or.inr (Or.inr (Or.inr (Or.inr (Or.inr (Or.inr (Or.inr (Or.inr (Or.inr (Or.inr (Or.inr (Or.inr (Or.inr (Or.inr (Or.inr (Or.inr (Or.inr (Or.inr (Or.inr (Or.inr (Or.inr (Or.inr (Or.inr (Or.inl ⟨rfl, rfl, rfl, rfl, rfl, rfl, rfl⟩)))))))))))))))))))))))))))))))
          | true =>
            cases x4 with
            | false =>
              cases p with
              | false =>
                exact Or.inr (Or.inr (Or.inr (Or.inr (Or.inr (Or.inr (Or.inr (Or.inr (Or.inr (Or.inr (Or.inr (Or.inr (Or.inr (Or.inr (Or.inr (Or.inr (Or.inr (Or.inr (Or.inr (Or.inr (Or.inr (Or.inr (Or.inr (Or.inr (Or.inr (Or.inr (Or.inl ⟨rfl, rfl, rfl, rfl, rfl, rfl, rfl⟩))))))))))))))))))))))))))
              | true =>
                cases q with
                | false =>
                  exact Or.inr (Or.inr (Or.inr (Or.inr (Or.inr (Or.inr (Or.inr (Or.inr (Or.inr (Or.inr (Or.inr (Or.inr (Or.inr (Or.inr (Or.inr (Or.inr (Or.inr (Or.inr (Or.inr (Or.inr (Or.inr (Or.inr (Or.inr (Or.inr (Or.inr (Or.inr (Or.inr (Or.inl ⟨rfl, rfl, rfl, rfl, rfl, rfl, rfl, rfl⟩)))))))))))))))))))))))))))
                | true =>
                  exact Or.inr (Or.inr (Or.inr (Or.inr (Or.inr (Or.inr (Or.inr (Or.inr (Or.inr (Or.inr (Or.inr (Or.inr (Or.inr (Or.inr (Or.inr (Or.inr (Or.inr (Or.inr (Or.inr (Or.inr (Or.inr (Or.inr (Or.inr (Or.inr (Or.inr (Or.inr (Or.inr (Or.inr (Or.inl ⟨rfl, rfl, rfl, rfl, rfl, rfl, rfl, rfl⟩))))))))))))))))))))))))))))
            | true =>
              exact Or.inr (Or.inr (Or.inr (Or.inr (Or.inr (Or.inr (Or.inr (Or.inr (Or.inr (Or.inr (Or.inr (Or.inr (Or.inr (Or.inr (Or.inr (Or.inr (Or.inr (Or.inr (Or.inr (Or.inr (Or.inr (Or.inr (Or.inr (Or.inr (Or.inr (Or.inl ⟨rfl, rfl, rfl, rfl, rfl, rfl⟩)))))))))))))))))))))))))
        | true =>
          cases x3 with
          | false =>
            cases o4 with
            | false =>
              cases p with
              | false =>
                exact Or.inr (Or.inr (Or.inr (Or.inr (Or.inr (Or.inr (Or.inr (Or.inr (Or.inr (Or.inr (Or.inr (Or.inr (Or.inr (Or.inr (Or.inr (Or.inr (Or.inr (Or.inr (Or.inr (Or.inr (Or.inr (Or.inr (Or.inl ⟨rfl, rfl, rfl, rfl, rfl, rfl, rfl⟩))))))))))))))))))))))
              | true =>
                cases q with
                | false =>
                  exact Or.inr (Or.inr (Or.inr (Or.inr (Or.inr (Or.inr (Or.inr (Or.inr (Or.inr (Or.inr (Or.inr (Or.inr (Or.inr (Or.inr (Or.inr (Or.inr (Or.inr (Or.inr (Or.inr (Or.inr (Or.inr (Or.inr (Or.inr (Or.inl ⟨rfl, rfl, rfl, rfl, rfl, rfl, rfl, rfl⟩)))))))))))))))))))))))
                | true =>
                  exact Or.inr (Or.inr (Or.inr (Or.inr (Or.inr (Or.inr (Or.inr (Or.inr (Or.inr (Or.inr (Or.inr (Or.inr (Or.inr (Or.inr (Or.inr (Or.inr (Or.inr (Or.inr (Or.inr (Or.inr (Or.inr (Or.inr (Or.inr (Or.inr (Or.inl ⟨rfl, rfl, rfl, rfl, rfl, rfl, rfl, rfl⟩))))))))))))))))))))))))
            | true =>
              cases x4 with
              | false =>
                cases p with
                | false =>
                  exact Or.inr (Or.inr (Or.inr (Or.inr (Or.inr (Or.inr (Or.inr (Or.inr (Or.inr (Or.inr (Or.inr (Or.inr (Or.inr (Or.inr (Or.inr (Or.inr (Or.inr (Or.inr (Or.inr (Or.inl ⟨rfl, rfl, rfl, rfl, rfl, rfl, rfl, rfl⟩)))))))))))))))))))
                | true =>
                  cases q with
                  | false =>
                    exact Or.inr (Or.inr (Or.inr (Or.inr (Or.inr (Or.inr (Or.inr (Or.inr (Or.inr (Or.inr (Or.inr (Or.inr (Or.inr (Or.inr (Or.inr (Or.inr (Or.inr (Or.inr (Or.inr (Or.inr (Or.inl ⟨rfl, rfl, rfl, rfl, rfl, rfl, rfl, rfl, rfl⟩))))))))))))))))))))
                  | true =>
                    exact Or.inr (Or.inr (Or.inr (Or.inr (Or.inr (Or.inr (Or.inr (Or.inr (Or.inr (Or.inr (Or.inr (Or.inr (Or.inr (Or.inr (Or.inr (Or.inr (Or.inr (Or.inr (Or.inr (Or.inr (Or.inr (Or.inl ⟨rfl, rfl, rfl, rfl, rfl, rfl, rfl, rfl, rfl⟩)))))))))))))))))))))
              | true =>
                exact Or.inr (Or.inr (Or.inr (Or.inr (Or.inr (Or.inr (Or.inr (Or.inr (Or.inr (Or.inr (Or.inr (Or.inr (Or.inr (Or.inr (Or.inr (Or.inr (Or.inr (Or.inr (Or.inl ⟨rfl, rfl, rfl, rfl, rfl, rfl, rfl⟩))))))))))))))))))
          | true =>
            exact Or.inr (Or.inr (Or.inr (Or.inr (Or.inr (Or.inr (Or.inr (Or.inr (Or.inr (Or.inr (Or.inr (Or.inr (Or.inr (Or.inr (Or.inr (Or.inr (Or.inr (Or.inl ⟨rfl, rfl, rfl, rfl, rfl⟩)))))))))))))))))
      | true =>
        cases x2 with
        | false =>
          cases o3 with
          | false =>
            cases o4 with
            | false =>
              cases p with
              | false =>
                exact Or.inr (Or.inr (Or.inr (Or.inr (Or.inr (Or.inr (Or.inr (Or.inr (Or.inr (Or.inr (Or.inr (Or.inr (Or.inr (Or.inr (Or.inl ⟨rfl, rfl, rfl, rfl, rfl, rfl, rfl⟩))))))))))))))
              | true =>
                cases q with
                | false =>
                  exact Or.inr (Or.inr (Or.inr (Or.inr (Or.inr (Or.inr (Or.inr (Or.inr (Or.inr (Or.inr (Or.inr (Or.inr (Or.inr (Or.inr (Or.inr (Or.inl ⟨rfl, rfl, rfl, rfl, rfl, rfl, rfl, rfl⟩)))))))))))))))
                | true =>
                  exact Or.inr (Or.inr (Or.inr (Or.inr (Or.inr (Or.inr (Or.inr (Or.inr (Or.inr (Or.inr (Or.inr (Or.inr (Or.inr (Or.inr (Or.inr (Or.inr (Or.inl ⟨rfl, rfl, rfl, rfl, rfl, rfl, rfl, rfl⟩))))))))))))))))
            | true =>
              cases x4 with
              | false =>
                cases p with
                | false =>
                  exact Or.inr (Or.inr (Or.inr (Or.inr (Or.inr (Or.inr (Or.inr (Or.inr (Or.inr (Or.inr (Or.inr (Or.inl ⟨rfl, rfl, rfl, rfl, rfl, rfl, rfl, rfl⟩)))))))))))
                | true =>
                  cases q with
                  | false =>
                    exact Or.inr (Or.inr (Or.inr (Or.inr (Or.inr (Or.inr (Or.inr (Or.inr (Or.inr (Or.inr (Or.inr (Or.inr (Or.inl ⟨rfl, rfl, rfl, rfl, rfl, rfl, rfl, rfl, rfl⟩))))))))))))
                  | true =>
                    exact Or.inr (Or.inr (Or.inr (Or.inr (Or.inr (Or.inr (Or.inr (Or.inr (Or.inr (Or.inr (Or.inr (Or.inr (Or.inr (Or.inl ⟨rfl, rfl, rfl, rfl, rfl, rfl, rfl, rfl, rfl⟩)))))))))))))
              | true =>
                exact Or.inr (Or.inr (Or.inr (Or.inr (Or.inr (Or.inr (Or.inr (Or.inr (Or.inr (Or.inr (Or.inl ⟨rfl, rfl, rfl, rfl, rfl, rfl, rfl⟩))))))))))
          | true =>
            cases x3 with
            | false =>
              cases o4 with
              | false =>
                cases p with
                | false =>
                  exact Or.inr (Or.inr (Or.inr (Or.inr (Or.inr (Or.inr (Or.inr (Or.inl ⟨rfl, rfl, rfl, rfl, rfl, rfl, rfl, rfl⟩)))))))
                | true =>
                  cases q with
                  | false =>
                    exact Or.inr (Or.inr (Or.inr (Or.inr (Or.inr (Or.inr (Or.inr (Or.inr (Or.inl ⟨rfl, rfl, rfl, rfl, rfl, rfl, rfl, rfl, rfl⟩))))))))
                  | true =>
                    exact Or.inr (Or.inr (Or.inr (Or.inr (Or.inr (Or.inr (Or.inr (Or.inr (Or.inr (Or.inl ⟨rfl, rfl, rfl, rfl, rfl, rfl, rfl, rfl, rfl⟩)))))))))
              | true =>
                cases x4 with
                | false =>
                  cases p with
                  | false =>
                    exact Or.inr (Or.inr (Or.inr (Or.inr (Or.inl ⟨rfl, rfl, rfl, rfl, rfl, rfl, rfl, rfl, rfl⟩))))
                  | true =>
                    cases q with
                    | false =>
                      exact Or.inr (Or.inr (Or.inr (Or.inr (Or.inr (Or.inl ⟨rfl, rfl, rfl, rfl, rfl, rfl, rfl, rfl, rfl, rfl⟩)))))
                    | true =>
                      exact Or.inr (Or.inr (Or.inr (Or.inr (Or.inr (Or.inr (Or.inl ⟨rfl, rfl, rfl, rfl, rfl, rfl, rfl, rfl, rfl, rfl⟩))))))
                | true =>
                  exact Or.inr (Or.inr (Or.inr (Or.inl ⟨rfl, rfl, rfl, rfl, rfl, rfl, rfl, rfl⟩)))
            | true =>
              exact Or.inr (Or.inr (Or.inl ⟨rfl, rfl, rfl, rfl, rfl, rfl⟩))
        | true =>
          exact Or.inr (Or.inl ⟨rfl, rfl, rfl, rfl⟩)
    | true =>
      exact Or.inl ⟨rfl, rfl⟩
set_option linter.unusedVariables false in
theorem meet_tree3 : ∀ p q o1 o2 o3 o4 x1 x2 x3 x4 : Bool, (o1 = true ∧ x1 = true) ∨ (o1 = true ∧ x1 = false ∧ o2 = true ∧ x2 = true) ∨ (o1 = true ∧ x1 = false ∧ o2 = true ∧ x2 = false ∧ o3 = true ∧ x3 = true) ∨ (o1 = true ∧ x1 = false ∧ o2 = true ∧ x2 = false ∧ o3 = true ∧ x3 = false ∧ o4 = true ∧ x4 = true) ∨ (o1 = true ∧ x1 = false ∧ o2 = true ∧ x2 = false ∧ o3 = true ∧ x3 = false ∧ o4 = true ∧ x4 = false) ∨ (o1 = true ∧ x1 = false ∧ o2 = true ∧ x2 = false ∧ o3 = true ∧ x3 = false ∧ o4 = false) ∨ (o1 = true ∧ x1 = false ∧ o2 = true ∧ x2 = false ∧ o3 = false ∧ o4 = true ∧ x4 = true) ∨ (o1 = true ∧ x1 = false ∧ o2 = true ∧ x2 = false ∧ o3 = false ∧ o4 = true ∧ x4 = false) ∨ (o1 = true ∧ x1 = false ∧ o2 = true ∧ x2 = false ∧ o3 = false ∧ o4 = false) ∨ (o1 = true ∧ x1 = false ∧ o2 = false ∧ o3 = true ∧ x3 = true) ∨ (o1 = true ∧ x1 = false ∧ o2 = false ∧ o3 = true ∧ x3 = false ∧ o4 = true ∧ x4 = true) ∨ (o1 = true ∧ x1 = false ∧ o2 = false ∧ o3 = true ∧ x3 = false ∧ o4 = true ∧ x4 = false) ∨ (o1 = true ∧ x1 = false ∧ o2 = false ∧ o3 = true ∧ x3 = false ∧ o4 = false) ∨ (o1 = true ∧ x1 = false ∧ o2 = false ∧ o3 = false ∧ o4 = true ∧ x4 = true) ∨ (o1 = true ∧ x1 = false ∧ o2 = false ∧ o3 = false ∧ o4 = true ∧ x4 = false) ∨ (o1 = true ∧ x1 = false ∧ o2 = false ∧ o3 = false ∧ o4 = false) ∨ (o1 = false ∧ o2 = true ∧ x2 = true) ∨ (o1 = false ∧ o2 = true ∧ x2 = false ∧ o3 = true ∧ x3 = true) ∨ (o1 = false ∧ o2 = true ∧ x2 = false ∧ o3 = true ∧ x3 = false ∧ o4 = true ∧ x4 = true) ∨ (o1 = false ∧ o2 = true ∧ x2 = false ∧ o3 = true ∧ x3 = false ∧ o4 = true ∧ x4 = false) ∨ (o1 = false ∧ o2 = true ∧ x2 = false ∧ o3 = true ∧ x3 = false ∧ o4 = false) ∨ (o1 = false ∧ o2 = true ∧ x2 = false ∧ o3 = false ∧ o4 = true ∧ x4 = true) ∨ (o1 = false ∧ o2 = true ∧ x2 = false ∧ o3 = false ∧ o4 = true ∧ x4 = false) ∨ (o1 = false ∧ o2 = true ∧ x2 = false ∧ o3 = false ∧ o4 = false) ∨ (o1 = false ∧ o2 = false ∧ o3 = true ∧ x3 = true) ∨ (o1 = false ∧ o2 = false ∧ o3 = true ∧ x3 = false ∧ o4 = true ∧ x4 = true) ∨ (o1 = false ∧ o2 = false ∧ o3 = true ∧ x3 = false ∧ o4 = true ∧ x4 = false) ∨ (o1 = false ∧ o2 = false ∧ o3 = true ∧ x3 = false ∧ o4 = false) ∨ (o1 = false ∧ o2 = false ∧ o3 = false ∧ o4 = true ∧ x4 = true) ∨ (o1 = false ∧ o2 = false ∧ o3 = false ∧ o4 = true ∧ x4 = false) ∨ (o1 = false ∧ o2 = false ∧ o3 = false ∧ o4 = false) := by
  intro p q o1 o2 o3 o4 x1 x2 x3 x4
  cases o1 with
  | false =>
    cases o2 with
    | false =>
      cases o3 with
      | false =>
        cases o4 with
        | false =>
          exact Or.inr (Or.inr (Or.inr (Or.inr (Or.inr (Or.inr (Or.inr (Or.inr (Or.inr (Or.inr (Or.inr (Or.inr (Or.inr (Or.inr (Or.inr (Or.inr (Or.inr (Or.inr (Or.inr (Or.inr (Or.inr (Or.inr (Or.inr (Or.inr (Or.inr (Or.inr (Or.inr (Or.inr (Or.inr (Or.inr (⟨rfl, rfl, rfl, rfl⟩))))))))))))))))))))))))))))))
        | true =>
          cases x4 with
          | false =>
            exact Or.inr (Or.inr (Or.inr (Or.inr (Or.inr (Or.inr (Or.inr (Or.inr (Or.inr (Or.inr (Or.inr (Or.inr (Or.inr (Or.inr (Or.inr (Or.inr (Or.inr (Or.inr (Or.inr (Or.inr (Or.inr (Or.inr (Or.inr (Or.inr (Or.inr (Or.inr (Or.inr (Or.inr (Or.inr (Or.inl ⟨rfl, rfl, rfl, rfl, rfl⟩)))))))))))))))))))))))))))))
          | true =>
            exact Or.inr (Or.inr (Or.inr (Or.inr (Or.inr (Or.inr (Or.inr (Or.inr (Or.inr (Or.inr (Or.inr (Or.inr (Or.inr (Or.inr (Or.inr (Or.inr (Or.inr (Or.inr (Or.inr (Or.inr (Or.inr (Or.inr (Or.inr (Or.inr (Or.inr (Or.inr (Or.inr (Or.inr (Or.inl ⟨rfl, rfl, rfl, rfl, rfl⟩))))))))))))))))))))))))))))
      | true =>
        cases x3 with
        | false =>
          cases o4 with
          | false =>
            exact Or.inr (Or.inr (Or.inr (Or.inr (Or.inr (Or.inr (Or.inr (Or.inr (Or.inr (Or.inr (Or.inr (Or.inr (Or.inr (Or.inr (Or.inr (Or.inr (Or.inr (Or.inr (Or.inr (Or.inr (Or.inr (Or.inr (Or.inr (Or.inr (Or.inr (Or.inr (Or.inr (Or.inl ⟨rfl, rfl, rfl, rfl, rfl⟩)))))))))))))))))))))))))))
          | true =>
            cases x4 with
            | false =>
              exact Or.inr (Or.inr (Or.inr (Or.inr (Or.inr (Or.inr (Or.inr (Or.inr (Or.inr (Or.inr (Or.inr (Or.inr (Or.inr (Or.inr (Or.inr (Or.inr (Or.inr (Or.inr (Or.inr (Or.inr (Or.inr (Or.inr (Or.inr (Or.inr (Or.inr (Or.inr (Or.inl ⟨rfl, rfl, rfl, rfl, rfl, rfl⟩))))))))))))))))))))))))))
            | true =>
              exact Or.inr (Or.inr (Or.inr (Or.inr (Or.inr (Or.inr (Or.inr (Or.inr (Or.inr (Or.inr (Or.inr (Or.inr (Or.inr (Or.inr (Or.inr (Or.inr (Or.inr (Or.inr (Or.inr (Or.inr (Or.inr (Or.inr (Or.inr (Or.inr (Or.inr (Or.inl ⟨rfl, rfl, rfl, rfl, rfl, rfl⟩)))))))))))))))))))))))))
        | true =>
          exact Or.inr (Or.inr (Or.inr (Or.inr (Or.inr (Or.inr (Or.inr (Or.inr (Or.inr (Or.inr (Or.inr (Or.inr (Or.inr (Or.inr (Or.inr (Or.inr (Or.inr (Or.inr (Or.inr (Or.inr (Or.inr (Or.inr (Or.inr (Or.inr (Or.inl ⟨rfl, rfl, rfl, rfl⟩))))))))))))))))))))))))
    | true =>
      cases x2 with
      | false =>
        cases o3 with
        | false =>
          cases o4 with
          | false =>
            exact Or.inr (Or.inr (Or.inr (Or.inr (Or.inr (Or.inr (Or.inr (Or.inr (Or.inr (Or.inr (Or.inr (Or.inr (Or.inr (Or.inr (Or.inr (Or.inr (Or.inr (Or.inr (Or.inr (Or.inr (Or.inr (Or.inr (Or.inr (Or.inl ⟨rfl, rfl, rfl, rfl, rfl⟩)))))))))))))))))))))))
          | true =>
            cases x4 with
            | false =>
              exact Or.inr (Or.inr (Or.inr (Or.inr (Or.inr (Or.inr (Or.inr (Or.inr (Or.inr (Or.inr (Or.inr (Or.inr (Or.inr (Or.inr (Or.inr (Or.inr (Or.inr (Or.inr (Or.inr (Or.inr (Or.inr (Or.inr (Or.inl ⟨rfl, rfl, rfl, rfl, rfl, rfl⟩))))))))))))))))))))))
            | true =>
              exact Or.inr (Or.inr (Or.inr (Or.inr (Or.inr (Or.inr (Or.inr (Or.inr (Or.inr (Or.inr (Or.inr (Or.inr (Or.inr (Or.inr (Or.inr (Or.inr (Or.inr (Or.inr (Or.inr (Or.inr (Or.inr (Or.inl ⟨rfl, rfl, rfl, rfl, rfl, rfl⟩)))))))))))))))))))))
        | true =>
          cases x3 with
          | false =>
            cases o4 with
            | false =>
              exact Or.inr (Or.inr (Or.inr (Or.inr (Or.inr (Or.inr (Or.inr (Or.inr (Or.inr (Or.inr (Or.inr (Or.inr (Or.inr (Or.inr (Or.inr (Or.inr (Or.inr (Or.inr (Or.inr (Or.inr (Or.inl ⟨rfl, rfl, rfl, rfl, rfl, rfl⟩))))))))))))))))))))
            | true =>
              cases x4 with
              | false =>
                exact Or.inr (Or.inr (Or.inr (Or.inr (Or.inr (Or.inr (Or.inr (Or.inr (Or.inr (Or.inr (Or.inr (Or.inr (Or.inr (Or.inr (Or.inr (Or.inr (Or.inr (Or.inr (Or.inr (Or.inl ⟨rfl, rfl, rfl, rfl, rfl, rfl, rfl⟩)))))))))))))))))))
              | true =>
                exact Or.inr (Or.inr (Or.inr (Or.inr (Or.inr (Or.inr (Or.inr (Or.inr (Or.inr (Or.inr (Or.inr (Or.inr (Or.inr (Or.inr (Or.inr (Or.inr (Or.inr (Or.inr (Or.inl ⟨rfl, rfl, rfl, rfl, rfl, rfl, rfl⟩))))))))))))))))))
          | true =>
            exact Or.inr (Or.inr (Or.inr (Or.inr (Or.inr (Or.inr (Or.inr (Or.inr (Or.inr (Or.inr (Or.inr (Or.inr (Or.inr (Or.inr (Or.inr (Or.inr (Or.inr (Or.inl ⟨rfl, rfl, rfl, rfl, rfl⟩)))))))))))))))))
      | true =>
        exact Or.inr (Or.inr (Or.inr (Or.inr (Or.inr (Or.inr (Or.inr (Or.inr (Or.inr (Or.inr (Or.inr (Or.inr (Or.inr (Or.inr (Or.inr (Or.inr (Or.inl ⟨rfl, rfl, rfl⟩))))))))))))))))
  | true =>
    cases x1 with
    | false =>
      cases o2 with
      | false =>
        cases o3 with
        | false =>
          cases o4 with
          | false =>
            exact Or.inr (Or.inr (Or.inr (Or.inr (Or.inr (Or.inr (Or.inr (Or.inr (Or.inr (Or.inr (Or.inr (Or.inr (Or.inr (Or.inr (Or.inr (Or.inl ⟨rfl, rfl, rfl, rfl, rfl⟩)))))))))))))))
          | true =>
            cases x4 with
            | false =>
              exact Or.inr (Or.inr (Or.inr (Or.inr (Or.inr (Or.inr (Or.inr (Or.inr (Or.inr (Or.inr (Or.inr (Or.inr (Or.inr (Or.inr (Or.inl ⟨rfl, rfl, rfl, rfl, rfl, rfl⟩))))))))))))))
            | true =>
              exact Or.inr (Or.inr (Or.inr (Or.inr (Or.inr (Or.inr (Or.inr (Or.inr (Or.inr (Or.inr (Or.inr (Or.inr (Or.inr (Or.inl ⟨rfl, rfl, rfl, rfl, rfl, rfl⟩)))))))))))))
        | true =>
          cases x3 with
          | false =>
            cases o4 with
            | false =>
              exact Or.inr (Or.inr (Or.inr (Or.inr (Or.inr (Or.inr (Or.inr (Or.inr (Or.inr (Or.inr (Or.inr (Or.inr (Or.inl ⟨rfl, rfl, rfl, rfl, rfl, rfl⟩))))))))))))
            | true =>
              cases x4 with
              | false =>
                exact Or.inr (Or.inr (Or.inr (Or.inr (Or.inr (Or.inr (Or.inr (Or.inr (Or.inr (Or.inr (Or.inr (Or.inl ⟨rfl, rfl, rfl, rfl, rfl, rfl, rfl⟩)))))))))))
              | true =>
                exact Or.inr (Or.inr (Or.inr (Or.inr (Or.inr (Or.inr (Or.inr (Or.inr (Or.inr (Or.inr (Or.inl ⟨rfl, rfl, rfl, rfl, rfl, rfl, rfl⟩))))))))))
          | true =>
            exact Or.inr (Or.inr (Or.inr (Or.inr (Or.inr (Or.inr (Or.inr (Or.inr (Or.inr (Or.inl ⟨rfl, rfl, rfl, rfl, rfl⟩)))))))))
      | true =>
        cases x2 with
        | false =>
          cases o3 with
          | false =>
            cases o4 with
            | false =>
              exact Or.inr (Or.inr (Or.inr (Or.inr (Or.inr (Or.inr (Or.inr (Or.inr (Or.inl ⟨rfl, rfl, rfl, rfl, rfl, rfl⟩))))))))
            | true =>
              cases x4 with
              | false =>
                exact Or.inr (Or.inr (Or.inr (Or.inr (Or.inr (Or.inr (Or.inr (Or.inl ⟨rfl, rfl, rfl, rfl, rfl, rfl, rfl⟩)))))))
              | true =>
                exact Or.inr (Or.inr (Or.inr (Or.inr (Or.inr (Or.inr (Or.inl ⟨rfl, rfl, rfl, rfl, rfl, rfl, rfl⟩))))))
          | true =>
            cases x3 with
            | false =>
              cases o4 with
              | false =>
                exact Or.inr (Or.inr (Or.inr (Or.inr (Or.inr (Or.inl ⟨rfl, rfl, rfl, rfl, rfl, rfl, rfl⟩)))))
              | true =>
                cases x4 with
                | false =>
                  exact Or.inr (Or.inr (Or.inr (Or.inr (Or.inl ⟨rfl, rfl, rfl, rfl, rfl, rfl, rfl, rfl⟩))))
                | true =>
                  exact Or.inr (Or.inr (Or.inr (Or.inl ⟨rfl, rfl, rfl, rfl, rfl, rfl, rfl, rfl⟩)))
            | true =>
              exact Or.inr (Or.inr (Or.inl ⟨rfl, rfl, rfl, rfl, rfl, rfl⟩))
        | true =>
          exact Or.inr (Or.inl ⟨rfl, rfl, rfl, rfl⟩)
    | true =>
      exact Or.inl ⟨rfl, rfl⟩
end Go.Proofs.Ytkhcblheekfdmaa
