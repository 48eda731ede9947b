/- What the worlds of a sort keep; a contract that leaves at most new blocks, in the shelf's form. It speaks of no program. -/
import Derived.Shelf.SlSortCmp.WholeK
import Derived.Test.YtnbefpfijaimjaaRow
namespace Go.Proofs.Ytnbefpfijaimjaa
open Go.RowKit Go.Sort
theorem More.grow {W W' : World} (h : More W W') : ∃ q os, W' = grow (W.drewN q) os := by
  refine ⟨W'.drawn - W.drawn, W'.heap.extract W.heap.size W'.heap.size, ?_⟩
  have h1 := h.os; have h2 := h.tape; have h3 := h.output; have h4 := h.size; have h5 := h.block; have h6 := h.drawn
  obtain ⟨heap, tape, drawn, os, output⟩ := W'
  simp only at h1 h2 h3 h4 h5 h6
  subst h1; subst h2; subst h3
  unfold Go.Sort.grow World.drewN
  simp only [World.mk.injEq, true_and]
  refine ⟨?_, by omega, trivial⟩
  apply Array.ext_getElem?
  intro k
  by_cases hk : k < W.heap.size
  · rw [Array.getElem?_append_left hk]
    exact h5 k hk
  · rw [Array.getElem?_append_right (by omega), Array.getElem?_extract]
    by_cases hk2 : k < heap.size
    · rw [if_pos (by omega)]
      congr 1
      omega
    · rw [if_neg (by omega), Array.getElem?_eq_none (by omega)]
theorem sort_turns {α : Type} [Inhabited α] (enc : α → List Value) (k : Nat) (w : World) (blk off m : Nat) (dk : Array α) (os : Array Obj) : Turns [blk] w (sortWorldK enc k w blk off m dk os) := by
  unfold sortWorldK
  refine ⟨rfl, rfl, rfl, ?_, fun j hj hn => ?_, ?_⟩
  · rw [size_grow, size_putRowK]
    simp [Sort.ahead]
  · have hs : (putRowK enc k (Sort.ahead w m) blk off dk).heap.size = w.heap.size := by rw [size_putRowK]; rfl
    show ((putRowK enc k (Sort.ahead w m) blk off dk).heap ++ os)[j]? = _
    rw [Array.getElem?_append_left (by omega)]
    simp at hn
    unfold putRowK putRow mapBlock
    simp [Sort.ahead, Array.getElem?_modify, show blk ≠ j by omega]
  · show w.drawn ≤ w.drawn + m
    omega
theorem rd_but {α : Type} {S : Ty α} {blk : Nat} {w w' : World} {cs : List Value} {x : α} (h : S.rd (fun k => k ≠ blk) w cs x) (t : Turns [blk] w w') : S.rd (fun k => k ≠ blk) w' cs x :=
  S.keep h (fun k hk hl => ⟨hk, t.block k hl (by simpa using hk), Nat.lt_of_lt_of_le hl t.size⟩)
end Go.Proofs.Ytnbefpfijaimjaa
