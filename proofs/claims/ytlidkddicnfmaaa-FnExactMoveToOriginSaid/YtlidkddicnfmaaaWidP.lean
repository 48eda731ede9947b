/- The least and the greatest coordinates of corners; corners moved. Plain facts; it speaks of no program. -/
import Derived.Test.YtlidkddicnfmaaaNegLaw
import Derived.Test.YtlidkddicnfmaaaPoly
namespace Go.Proofs.Ytlidkddicnfmaaa
open Go.RowKit
def minQ (a b : QV) : QV := (min a.1 b.1, min a.2 b.2)
def maxQ (a b : QV) : QV := (max a.1 b.1, max a.2 b.2)
def loK (l : List QV) (k : Nat) : QV := (l.take k).foldl minQ (l.headD (0, 0))
def hiK (l : List QV) (k : Nat) : QV := (l.take k).foldl maxQ (l.headD (0, 0))
theorem loK_next {l : List QV} {k : Nat} {x : QV} (hx : l[k]? = some x) : loK l (k + 1) = minQ (loK l k) x := by
  unfold loK
  rw [take_next hx, List.foldl_append]
  rfl
theorem hiK_next {l : List QV} {k : Nat} {x : QV} (hx : l[k]? = some x) : hiK l (k + 1) = maxQ (hiK l k) x := by
  unfold hiK
  rw [take_next hx, List.foldl_append]
  rfl
theorem isV_min {a b : QV} (ha : isV a = true) (hb : isV b = true) : isV (minQ a b) = true := by
  rw [isV_iff] at ha hb ⊢
  unfold minQ
  omega
theorem isV_max {a b : QV} (ha : isV a = true) (hb : isV b = true) : isV (maxQ a b) = true := by
  rw [isV_iff] at ha hb ⊢
  unfold maxQ
  omega
theorem isV_zero : isV (0, 0) = true := by decide
theorem isV_head {l : List QV} (h : l.all isV = true) : isV (l.headD (0, 0)) = true := by
  cases l with
  | nil => exact isV_zero
  | cons x l => simp at h; exact h.1
theorem loK_isV {l : List QV} (h : l.all isV = true) (k : Nat) : isV (loK l k) = true := by
  induction k with
  | zero => exact isV_head h
  | succ k ih =>
    cases hx : l[k]? with
    | none =>
      unfold loK at ih ⊢
      have : l.length ≤ k := List.getElem?_eq_none_iff.1 hx
      rw [List.take_of_length_le (by omega)]
      rwa [List.take_of_length_le (by omega)] at ih
    | some x =>
      rw [loK_next hx]
      exact isV_min ih (List.all_eq_true.1 h x (List.mem_of_getElem? hx))
theorem hiK_isV {l : List QV} (h : l.all isV = true) (k : Nat) : isV (hiK l k) = true := by
  induction k with
  | zero => exact isV_head h
  | succ k ih =>
    cases hx : l[k]? with
    | none =>
      unfold hiK at ih ⊢
      have : l.length ≤ k := List.getElem?_eq_none_iff.1 hx
      rw [List.take_of_length_le (by omega)]
      rwa [List.take_of_length_le (by omega)] at ih
    | some x =>
      rw [hiK_next hx]
      exact isV_max ih (List.all_eq_true.1 h x (List.mem_of_getElem? hx))
def addV (v : QV) (x : QV) : QV := (x.1 + v.1, x.2 + v.2)
noncomputable def widF (l : List QV) : QV × QV × Bool := if isPoly l then (loK l l.length, hiK l l.length, true) else ((0, 0), (0, 0), false)
def movG (l : List QV) (v : QV) : List QV := if (l.map (addV v)).all isV then l.map (addV v) else []
def negQ (v : QV) : QV := (-v.1, -v.2)
noncomputable def movO (l : List QV) : List QV := if isPoly l then movG l (negQ (loK l l.length)) else []
theorem movG_len (l : List QV) (v : QV) : (movG l v).length ≤ l.length := by
  unfold movG
  split <;> simp
theorem movO_len (l : List QV) : (movO l).length ≤ l.length := by
  unfold movO
  split
  · exact movG_len _ _
  · simp
end Go.Proofs.Ytlidkddicnfmaaa
