/- The regions that are reached from one region: plain facts; it speaks of no program. -/
import Derived.Test.YtbbibfeblaocfaaNegLaw
namespace Go.Proofs.Ytbbibfeblaocfaa
/-- A row of links with the valid new ones put behind. -/
def bfAdd (n : Nat) (Q l : List Int) : List Int := l.foldl (fun Q x => if inR x 0 ((n : Int) - 1) && !Q.contains x then Q ++ [x] else Q) Q
theorem bfAdd_next {n : Nat} {Q l : List Int} {j : Nat} {x : Int} (hx : l[j]? = some x) : bfAdd n Q (l.take (j + 1)) = if inR x 0 ((n : Int) - 1) && !(bfAdd n Q (l.take j)).contains x then bfAdd n Q (l.take j) ++ [x] else bfAdd n Q (l.take j) := by
  unfold bfAdd
  rw [take_next hx, List.foldl_append]
  rfl
def bfLinks (L : List (List Int)) (x : Int) : List Int := L.getD x.toNat []
def bfs (L : List (List Int)) (k : Int) : Nat → List Int
  | 0 => [k]
  | i + 1 => if i < (bfs L k i).length then bfAdd L.length (bfs L k i) (bfLinks L ((bfs L k i).getD i 0)) else bfs L k i
/-- Without twins, all of them regions. -/
def RegOk (n : Nat) (Q : List Int) : Prop := Q.Nodup ∧ ∀ x ∈ Q, inR x 0 ((n : Int) - 1) = true
theorem RegOk.add {n : Nat} {Q : List Int} (h : RegOk n Q) {x : Int} (h1 : inR x 0 ((n : Int) - 1) = true) (h2 : Q.contains x = false) : RegOk n (Q ++ [x]) := by
  refine ⟨?_, fun y hy => ?_⟩
  · rw [List.nodup_append]
    refine ⟨h.1, by simp, fun a ha b hb hab => ?_⟩
    simp at hb
    subst hb
    subst hab
    have : Q.contains a = true := by simpa using ha
    rw [h2] at this
    cases this
  · rcases List.mem_append.1 hy with hy | hy
    · exact h.2 y hy
    · simp at hy; subst hy; exact h1
theorem bfAdd_ok {n : Nat} {Q l : List Int} (h : RegOk n Q) : RegOk n (bfAdd n Q l) := by
  unfold bfAdd
  induction l generalizing Q with
  | nil => exact h
  | cons x l ih =>
    rw [List.foldl_cons]
    split
    · rename_i hc
      rw [Bool.and_eq_true, Bool.not_eq_true'] at hc
      exact ih (h.add hc.1 hc.2)
    · exact ih h
theorem bfs_ok {L : List (List Int)} {k : Int} (hk : inR k 0 ((L.length : Int) - 1) = true) (i : Nat) : RegOk L.length (bfs L k i) := by
  induction i with
  | zero => exact ⟨by simp [bfs], fun x hx => by simp [bfs] at hx; subst hx; exact hk⟩
  | succ i ih =>
    rw [bfs]
    split
    · exact bfAdd_ok ih
    · exact ih
/-- No more regions than there are. -/
theorem nodup_len : ∀ (n : Nat) (Q : List Int), RegOk n Q → Q.length ≤ n := by
  intro n
  induction n with
  | zero =>
    intro Q h
    cases Q with
    | nil => simp
    | cons x Q =>
      have := inR_iff.1 (h.2 x (by simp))
      omega
  | succ n ih =>
    intro Q h
    have h1 := ih (Q.erase (n : Int)) ⟨h.1.erase _, fun x hx => by
      have hm := List.mem_of_mem_erase hx
      have h2 := inR_iff.1 (h.2 x hm)
      have h3 : x ≠ (n : Int) := by
        rintro rfl
        exact (List.Nodup.not_mem_erase h.1) hx
      exact inR_iff.2 (by omega)⟩
    by_cases hm : (n : Int) ∈ Q
    · rw [List.length_erase_of_mem hm] at h1
      omega
    · rw [List.erase_of_not_mem hm] at h1
      omega
theorem bfAdd_pre {n : Nat} {Q l : List Int} : ∃ R, bfAdd n Q l = Q ++ R := by
  unfold bfAdd
  induction l generalizing Q with
  | nil => exact ⟨[], by simp⟩
  | cons x l ih =>
    rw [List.foldl_cons]
    split
    · obtain ⟨R, hR⟩ := ih (Q := Q ++ [x])
      exact ⟨[x] ++ R, by rw [hR, List.append_assoc]⟩
    · exact ih
def ordI (x y : Int) : Bool := decide (x ≤ y)
noncomputable def regF (L : List (List Int)) (k : Int) : List Int := if inR k 0 ((L.length : Int) - 1) then (bfs L k L.length).mergeSort ordI else []
theorem bfs_stop {L : List (List Int)} {k : Int} {i : Nat} (h : (bfs L k i).length ≤ i) : ∀ j, i ≤ j → bfs L k j = bfs L k i := by
  intro j hj
  obtain ⟨d, rfl⟩ := Nat.exists_eq_add_of_le hj
  induction d with
  | zero => rfl
  | succ d ih =>
    have ih := ih (by omega)
    rw [← Nat.add_assoc, bfs, if_neg (by rw [ih]; omega), ih]
theorem bfs_end {L : List (List Int)} {k : Int} (hk : inR k 0 ((L.length : Int) - 1) = true) {i : Nat} (h : (bfs L k i).length ≤ i) : bfs L k L.length = bfs L k i := by
  have h1 := nodup_len _ _ (bfs_ok hk L.length)
  rcases Nat.le_total i L.length with hi | hi
  · exact bfs_stop h _ hi
  · exact (bfs_stop h1 _ hi).symm
/-- Lists in order with the same elements are one list. -/
theorem sorted_eq {l m : List Int} (h : l.Perm m) (hl : l.Pairwise (fun a b => a ≤ b)) (hm : m.Pairwise (fun a b => a ≤ b)) : l = m :=
  h.eq_of_pairwise (fun _ _ _ _ h1 h2 => Int.le_antisymm h1 h2) hl hm
theorem mergeSort_pw (l : List Int) : (l.mergeSort ordI).Pairwise (fun a b => a ≤ b) := by
  have := List.pairwise_mergeSort (le := ordI) (fun _ _ _ h1 h2 => by simp [ordI] at *; omega) (fun _ _ => by simp [ordI]; omega) l
  exact this.imp (fun h => by simpa [ordI] using h)
end Go.Proofs.Ytbbibfeblaocfaa
