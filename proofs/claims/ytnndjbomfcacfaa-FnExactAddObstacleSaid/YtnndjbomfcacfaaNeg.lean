/- NegatePolygon: the reference's and the program's, and the law. -/
import Derived.Test.YtnndjbomfcacfaaGVec
namespace Go.Proofs.Ytnndjbomfcacfaa
open Go.RowKit

def negV (v : QV) : QV := (-v.1, -v.2)
def negP (l : List QV) : List QV := if l.all isV then l.map negV else []
theorem all_false {α : Type} {p : α → Bool} {l : List α} {k : Nat} {x : α} (hx : l[k]? = some x) (h : p x = false) : l.all p = false := by
  rw [List.all_eq_false]
  exact ⟨x, List.mem_of_getElem? hx, by simp [h]⟩
theorem take_next {α : Type} {l : List α} {k : Nat} {x : α} (hx : l[k]? = some x) : l.take (k + 1) = l.take k ++ [x] := by
  obtain ⟨hk, rfl⟩ := List.getElem?_eq_some_iff.1 hx
  exact List.take_succ_eq_append_getElem hk
theorem take_map_next {α β : Type} {f : α → β} {l : List α} {k : Nat} {x : α} (hx : l[k]? = some x) : (l.map f).take (k + 1) = (l.map f).take k ++ [f x] :=
  take_next (by rw [List.getElem?_map, hx]; rfl)
theorem all_take_next {α : Type} {p : α → Bool} {l : List α} {k : Nat} {x : α} (hx : l[k]? = some x) (h : (l.take k).all p = true) (h' : p x = true) : (l.take (k + 1)).all p = true := by
  rw [take_next hx, List.all_append, h]
  simp [h']

end Go.Proofs.Ytnndjbomfcacfaa
