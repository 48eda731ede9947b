/- The edges of polygons. Plain facts; it speaks of no program. -/
import Derived.Test.YtejhibpaknjhnaaWidP
import Derived.Test.YtejhibpaknjhnaaKin
namespace Go.Proofs.Ytejhibpaknjhnaa
open Go.RowKit
def edgeV (a b : QV) (k : Int) : List QE := if a.1 < b.1 then [(a, b, k, true)] else if b.1 < a.1 then [(b, a, k, false)] else []
def edgK (l : List QV) (k : Int) (n : Nat) : List QE := (List.range n).flatMap fun i => edgeV (l.getD i (0, 0)) (l.getD ((i + 1) % l.length) (0, 0)) k
theorem edgK_next (l : List QV) (k : Int) (n : Nat) : edgK l k (n + 1) = edgK l k n ++ edgeV (l.getD n (0, 0)) (l.getD ((n + 1) % l.length) (0, 0)) k := by
  unfold edgK
  rw [List.range_succ, List.flatMap_append]
  simp
theorem edgeV_len (a b : QV) (k : Int) : (edgeV a b k).length ≤ 1 := by
  unfold edgeV
  split
  · simp
  · split <;> simp
theorem edgK_len (l : List QV) (k : Int) (n : Nat) : (edgK l k n).length ≤ n := by
  induction n with
  | zero => simp [edgK]
  | succ n ih =>
    rw [edgK_next, List.length_append]
    have := edgeV_len (l.getD n (0, 0)) (l.getD ((n + 1) % l.length) (0, 0)) k
    omega
theorem edgeV_lt {a b : QV} (h : a.1 < b.1) (k : Int) : edgeV a b k = [(a, b, k, true)] := if_pos h
theorem edgeV_gt {a b : QV} (h : b.1 < a.1) (k : Int) : edgeV a b k = [(b, a, k, false)] := by unfold edgeV; rw [if_neg (by omega), if_pos h]
theorem edgeV_eq {a b : QV} (h1 : ¬ a.1 < b.1) (h2 : ¬ b.1 < a.1) (k : Int) : edgeV a b k = [] := by unfold edgeV; rw [if_neg h1, if_neg h2]
def edgA (ls : List (List QV)) (n : Nat) : List QE := (List.range n).flatMap fun i => edgK (ls.getD i []) (i : Int) (ls.getD i []).length
theorem edgA_next {ls : List (List QV)} {n : Nat} {l : List QV} (h : ls[n]? = some l) : edgA ls (n + 1) = edgA ls n ++ edgK l n l.length := by
  unfold edgA
  rw [List.range_succ, List.flatMap_append]
  simp [List.getD_eq_getElem?_getD, h]
theorem edgA_len (ls : List (List QV)) (n : Nat) (hn : n ≤ ls.length) : (edgA ls n).length ≤ wsum wVecS (ls.take n) := by
  induction n with
  | zero => simp [edgA]
  | succ n ih =>
    have hx : ls[n]? = some (ls[n]'(by omega)) := List.getElem?_eq_getElem (by omega)
    rw [edgA_next hx, List.length_append, wsum_next hx]
    have := edgK_len (ls[n]'(by omega)) n (ls[n]'(by omega)).length
    have := ih (by omega)
    have e9 : wVecS (ls[n]'(by omega)) = (ls[n]'(by omega)).length := rfl
    omega
noncomputable def edgF (ls : List (List QV)) : List QE := if ls.all isPoly then edgA ls ls.length else []
theorem edgF_len (ls : List (List QV)) : (edgF ls).length ≤ wVecSS ls := by
  unfold edgF wVecSS
  split
  · have := edgA_len ls ls.length (Nat.le_refl _)
    rw [List.take_length] at this
    omega
  · simp
end Go.Proofs.Ytejhibpaknjhnaa
