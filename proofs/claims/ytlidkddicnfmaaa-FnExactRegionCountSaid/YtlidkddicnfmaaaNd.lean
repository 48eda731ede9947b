/- How many distinct elements a list of ints has. Plain facts; it speaks of no program. -/
import Derived.Test.YtlidkddicnfmaaaNegLaw
namespace Go.Proofs.Ytlidkddicnfmaaa
/-- From the end. -/
def ndc : List Int → Nat
  | [] => 0
  | x :: l => ndc l + if x ∈ l then 0 else 1
theorem ndc_perm {l m : List Int} (h : l.Perm m) : ndc l = ndc m := by
  induction h with
  | nil => rfl
  | cons x h ih => simp only [ndc, ih, h.mem_iff]
  | swap x y l =>
    simp only [ndc, List.mem_cons]
    by_cases h1 : x = y
    · subst h1; rfl
    · have h2 : ¬ y = x := fun e => h1 e.symm
      simp only [h1, h2, false_or]
      omega
  | trans _ _ ih1 ih2 => exact ih1.trans ih2
/-- From the front: how many of the first k are new. -/
def ndk (l : List Int) : Nat → Nat
  | 0 => 0
  | k + 1 => ndk l k + if l.getD k 0 ∈ l.take k then 0 else 1
theorem ndc_snoc (l : List Int) (x : Int) : ndc (l ++ [x]) = ndc l + if x ∈ l then 0 else 1 := by
  rw [ndc_perm (List.perm_append_singleton x l)]
  rfl
theorem ndk_take (l : List Int) {k : Nat} (hk : k ≤ l.length) : ndk l k = ndc (l.take k) := by
  induction k with
  | zero => rfl
  | succ k ih =>
    have hx : l[k]? = some (l[k]'(by omega)) := List.getElem?_eq_getElem (by omega)
    rw [take_next hx, ndc_snoc, ndk, ih (by omega)]
    simp [List.getD_eq_getElem?_getD, hx]
theorem ndk_all (l : List Int) : ndk l l.length = ndc l := by
  rw [ndk_take l (Nat.le_refl _), List.take_length]
theorem ndk_le (l : List Int) (k : Nat) : ndk l k ≤ k := by
  induction k with
  | zero => exact Nat.le_refl _
  | succ k ih => rw [ndk]; split <;> omega
end Go.Proofs.Ytlidkddicnfmaaa
