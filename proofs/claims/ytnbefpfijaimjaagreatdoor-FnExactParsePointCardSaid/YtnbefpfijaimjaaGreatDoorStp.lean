/- The number that digits say, and its limbs of nine digits. Plain facts; it speaks of no program. -/
import Derived.Test.YtnbefpfijaimjaaGreatDoorStd
import Derived.Test.YtnbefpfijaimjaaGreatDoorGNum
namespace Go.Proofs.YtnbefpfijaimjaaGreatDoor
def digV (b : UInt8) : Nat := b.toNat - 48
def cv (l : List UInt8) : Nat := l.foldl (fun n b => n * 10 + digV b) 0
theorem cv_snoc (l : List UInt8) (b : UInt8) : cv (l ++ [b]) = cv l * 10 + digV b := by
  unfold cv
  rw [List.foldl_append]
  rfl
theorem cv_foldl (l : List UInt8) : ∀ n, l.foldl (fun n b => n * 10 + digV b) n = n * 10 ^ l.length + cv l := by
  induction l with
  | nil => intro n; simp [cv]
  | cons a l ih =>
    intro n
    have h1 : cv (a :: l) = digV a * 10 ^ l.length + cv l := by
      unfold cv
      rw [List.foldl_cons, Nat.zero_mul, Nat.zero_add]
      exact ih _
    rw [List.foldl_cons, ih, h1, List.length_cons, Nat.pow_succ, Nat.add_mul, Nat.mul_assoc n 10, Nat.mul_comm 10, Nat.add_assoc]
theorem cv_append (l m : List UInt8) : cv (l ++ m) = cv l * 10 ^ m.length + cv m := by
  show (l ++ m).foldl _ 0 = _
  rw [List.foldl_append]
  exact cv_foldl m _
theorem digV_le {b : UInt8} (h : digB b = true) : digV b ≤ 9 ∧ (b.toNat : Int) = digV b + 48 := by
  unfold digB at h
  unfold digV
  simp only [Bool.and_eq_true, decide_eq_true_eq] at h
  omega
theorem cv_lt : ∀ {l : List UInt8}, l.all digB = true → cv l < 10 ^ l.length := by
  intro l
  induction l with
  | nil => intro _; simp [cv]
  | cons a l ih =>
    intro h
    rw [List.all_cons, Bool.and_eq_true] at h
    have h1 := digV_le h.1
    have h2 := ih h.2
    have h3 : cv (a :: l) = digV a * 10 ^ l.length + cv l := by
      have := cv_append [a] l
      rw [List.singleton_append] at this
      rw [this]
      simp [cv]
    rw [h3, List.length_cons, Nat.pow_succ, Nat.mul_comm]
    have h4 : 10 ^ l.length * digV a ≤ 10 ^ l.length * 9 := Nat.mul_le_mul_left _ h1.1
    omega
theorem all_take {l : List UInt8} {p : UInt8 → Bool} (h : l.all p = true) (k : Nat) : (l.take k).all p = true := List.all_eq_true.2 fun x hx => List.all_eq_true.1 h x (List.mem_of_mem_take hx)
theorem all_drop {l : List UInt8} {p : UInt8 → Bool} (h : l.all p = true) (k : Nat) : (l.drop k).all p = true := List.all_eq_true.2 fun x hx => List.all_eq_true.1 h x (List.mem_of_mem_drop hx)
/-- The chunk of nine bytes (at most) that ends at e. -/
def chunk (l : List UInt8) (e : Nat) : List UInt8 := (l.take e).drop (e - 9)
theorem chunk_lt {l : List UInt8} {e : Nat} (h : l.all digB = true) : cv (chunk l e) < 1000000000 := by
  have h1 := cv_lt (all_drop (all_take h e) (e - 9))
  have h2 : (chunk l e).length ≤ 9 := by unfold chunk; rw [List.length_drop, List.length_take]; omega
  have h3 : 10 ^ (chunk l e).length ≤ 10 ^ 9 := Nat.pow_le_pow_right (by decide) h2
  unfold chunk at *
  omega
theorem chunk_cv {l : List UInt8} {e : Nat} (he : 0 < e) (hl : e ≤ l.length) : cv (l.take e) = cv (l.take (e - 9)) * 1000000000 + cv (chunk l e) := by
  have h1 : l.take e = (l.take e).take (e - 9) ++ chunk l e := (List.take_append_drop (e - 9) (l.take e)).symm
  rw [List.take_take, Nat.min_eq_left (by omega)] at h1
  by_cases h9 : 9 ≤ e
  · have h2 : (chunk l e).length = 9 := by unfold chunk; rw [List.length_drop, List.length_take]; omega
    rw [h1, cv_append, h2]
  · have h0 : e - 9 = 0 := by omega
    rw [h0, List.take_zero, List.nil_append] at h1
    rw [h0, List.take_zero, ← h1]
    simp [cv]
def pN (l : List UInt8) : Option Nat := if isDig l && decide (l.length ≤ 540) && !(decide (1 < l.length) && decide (l[0]? = some 48)) then some (cv l) else none
theorem pN_ok {l : List UInt8} {n : Nat} (h : pN l = some n) : l.all digB = true ∧ l.length ≤ 540 ∧ l ≠ [] ∧ n = cv l := by
  unfold pN at h
  split at h
  · rename_i h1
    cases h
    simp only [Bool.and_eq_true, isDig, decide_eq_true_eq, Bool.not_eq_true'] at h1
    obtain ⟨⟨⟨h2, h3⟩, h4⟩, _⟩ := h1
    refine ⟨h3, h4, fun e => by rw [e] at h2; simp at h2, rfl⟩
  · cases h
end Go.Proofs.YtnbefpfijaimjaaGreatDoor
