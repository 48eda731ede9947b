/- Boxes of six cells. It speaks of no program. -/
import Derived.Test.YteihkhniibncnaaGreatBx
namespace Go.Proofs.YteihkhniibncnaaGreat
open Go.RowKit
structure Box6 (w : World) (B : Nat) (c0 c1 c2 c3 c4 c5 : Value) : Prop where
  e0 : w.cell? ⟨B, 0, none⟩ = some c0
  e1 : w.cell? ⟨B, 1, none⟩ = some c1
  e2 : w.cell? ⟨B, 2, none⟩ = some c2
  e3 : w.cell? ⟨B, 3, none⟩ = some c3
  e4 : w.cell? ⟨B, 4, none⟩ = some c4
  e5 : w.cell? ⟨B, 5, none⟩ = some c5
  fr : ∀ j, w.frozen? ⟨B, j, none⟩ = false
  lt : B < w.heap.size
theorem Box6.keep {w w' : World} {B : Nat} {c0 c1 c2 c3 c4 c5 : Value} (h : Box6 w B c0 c1 c2 c3 c4 c5) (hm : More w w') : Box6 w' B c0 c1 c2 c3 c4 c5 :=
  ⟨box_keep hm h.lt h.e0, box_keep hm h.lt h.e1, box_keep hm h.lt h.e2, box_keep hm h.lt h.e3, box_keep hm h.lt h.e4, box_keep hm h.lt h.e5, fun j => free_keep hm h.lt (h.fr j), Nat.lt_of_lt_of_le h.lt hm.size⟩
theorem Box6.turn {w w' : World} {B : Nat} {bs : List Nat} {c0 c1 c2 c3 c4 c5 : Value} (h : Box6 w B c0 c1 c2 c3 c4 c5) (ht : Turns bs w w') (hb : B ∉ bs) : w'.cell? ⟨B, 0, none⟩ = some c0 ∧ w'.cell? ⟨B, 1, none⟩ = some c1 ∧ w'.cell? ⟨B, 2, none⟩ = some c2 ∧ w'.cell? ⟨B, 3, none⟩ = some c3 ∧ w'.cell? ⟨B, 4, none⟩ = some c4 ∧ w'.cell? ⟨B, 5, none⟩ = some c5 :=
  ⟨cell_heap h.e0 (ht.block _ h.lt hb), cell_heap h.e1 (ht.block _ h.lt hb), cell_heap h.e2 (ht.block _ h.lt hb), cell_heap h.e3 (ht.block _ h.lt hb), cell_heap h.e4 (ht.block _ h.lt hb), cell_heap h.e5 (ht.block _ h.lt hb)⟩
end Go.Proofs.YteihkhniibncnaaGreat
