/- Boxes of two, three cells: made by an alloc, kept, filled. It speaks of no program. -/
import Derived.Test.YtnbefpfijaimjaaGreatDoorBig
import Derived.Deep.DeepCutAuto
namespace Go.Proofs.YtnbefpfijaimjaaGreatDoor
open Go.RowKit
structure Box2 (w : World) (B : Nat) (x y : Value) : Prop where
  c0 : w.cell? ⟨B, 0, none⟩ = some x
  c1 : w.cell? ⟨B, 1, none⟩ = some y
  fr : ∀ j, w.frozen? ⟨B, j, none⟩ = false
  lt : B < w.heap.size
structure Box3 (w : World) (B : Nat) (x y z : Value) : Prop where
  c0 : w.cell? ⟨B, 0, none⟩ = some x
  c1 : w.cell? ⟨B, 1, none⟩ = some y
  c2 : w.cell? ⟨B, 2, none⟩ = some z
  fr : ∀ j, w.frozen? ⟨B, j, none⟩ = false
  lt : B < w.heap.size
theorem alloc_lt {X w : World} {o : Obj} {N : Nat} (hN : X.heap.size = N) (h : More (X.alloc o) w) : N < w.heap.size := by
  have := h.size
  simp at this
  omega
theorem Box2.new {X w : World} {x y : Value} {t : TypeId} {N : Nat} (hN : X.heap.size = N) (h : More (X.alloc (.cells #[x, y] t)) w) : Box2 w N x y :=
  ⟨box_new hN h 0, box_new hN h 1, fun j => box_free hN h j, alloc_lt hN h⟩
theorem Box3.new {X w : World} {x y z : Value} {t : TypeId} {N : Nat} (hN : X.heap.size = N) (h : More (X.alloc (.cells #[x, y, z] t)) w) : Box3 w N x y z :=
  ⟨box_new hN h 0, box_new hN h 1, box_new hN h 2, fun j => box_free hN h j, alloc_lt hN h⟩
theorem More.undrew {X w : World} (h : More X.drew w) : More X w := Turns.more (((Turns.refl [] X).drew).trans (h.turns []))
theorem Box2.newD {X w : World} {x y : Value} {t : TypeId} {N : Nat} (hN : X.heap.size = N) (h : More (X.alloc (.cells #[x, y] t)).drew w) : Box2 w N x y := Box2.new hN h.undrew
theorem Box3.newD {X w : World} {x y z : Value} {t : TypeId} {N : Nat} (hN : X.heap.size = N) (h : More (X.alloc (.cells #[x, y, z] t)).drew w) : Box3 w N x y z := Box3.new hN h.undrew
theorem Box2.keep {w w' : World} {B : Nat} {x y : Value} (h : Box2 w B x y) (hm : More w w') : Box2 w' B x y :=
  ⟨box_keep hm h.lt h.c0, box_keep hm h.lt h.c1, fun j => free_keep hm h.lt (h.fr j), Nat.lt_of_lt_of_le h.lt hm.size⟩
theorem Box3.keep {w w' : World} {B : Nat} {x y z : Value} (h : Box3 w B x y z) (hm : More w w') : Box3 w' B x y z :=
  ⟨box_keep hm h.lt h.c0, box_keep hm h.lt h.c1, box_keep hm h.lt h.c2, fun j => free_keep hm h.lt (h.fr j), Nat.lt_of_lt_of_le h.lt hm.size⟩
theorem Box2.turn {w w' : World} {B : Nat} {bs : List Nat} {x y : Value} (h : Box2 w B x y) (ht : Turns bs w w') (hb : B ∉ bs) : w'.cell? ⟨B, 0, none⟩ = some x ∧ w'.cell? ⟨B, 1, none⟩ = some y :=
  ⟨cell_heap h.c0 (ht.block _ h.lt hb), cell_heap h.c1 (ht.block _ h.lt hb)⟩
theorem Box3.turn {w w' : World} {B : Nat} {bs : List Nat} {x y z : Value} (h : Box3 w B x y z) (ht : Turns bs w w') (hb : B ∉ bs) : w'.cell? ⟨B, 0, none⟩ = some x ∧ w'.cell? ⟨B, 1, none⟩ = some y ∧ w'.cell? ⟨B, 2, none⟩ = some z :=
  ⟨cell_heap h.c0 (ht.block _ h.lt hb), cell_heap h.c1 (ht.block _ h.lt hb), cell_heap h.c2 (ht.block _ h.lt hb)⟩
theorem Box2.set {w : World} {B : Nat} {x y u v : Value} (h : Box2 w B x y) : Box2 ((w.setCell ⟨B, 0, none⟩ u).setCell ⟨B, 1, none⟩ v) B u v := by
  have e1 : (w.setCell ⟨B, 0, none⟩ u).cell? ⟨B, 1, none⟩ = some y := (World.cell?_setCell_other _ _ _ _ (by simp)).trans h.c1
  refine ⟨(World.cell?_setCell_other _ _ _ _ (by simp)).trans (World.cell?_setCell_same _ _ _ h.c0), World.cell?_setCell_same _ _ _ e1, fun j => by rw [World.frozen?_setCell, World.frozen?_setCell]; exact h.fr j, by simpa using h.lt⟩
theorem Box3.set {w : World} {B : Nat} {x y z u v t : Value} (h : Box3 w B x y z) : Box3 (((w.setCell ⟨B, 0, none⟩ u).setCell ⟨B, 1, none⟩ v).setCell ⟨B, 2, none⟩ t) B u v t := by
  have e1 : (w.setCell ⟨B, 0, none⟩ u).cell? ⟨B, 1, none⟩ = some y := (World.cell?_setCell_other _ _ _ _ (by simp)).trans h.c1
  have e2 : ((w.setCell ⟨B, 0, none⟩ u).setCell ⟨B, 1, none⟩ v).cell? ⟨B, 2, none⟩ = some z := (World.cell?_setCell_other _ _ _ _ (by simp)).trans ((World.cell?_setCell_other _ _ _ _ (by simp)).trans h.c2)
  refine ⟨(World.cell?_setCell_other _ _ _ _ (by simp)).trans ((World.cell?_setCell_other _ _ _ _ (by simp)).trans (World.cell?_setCell_same _ _ _ h.c0)), (World.cell?_setCell_other _ _ _ _ (by simp)).trans (World.cell?_setCell_same _ _ _ e1), World.cell?_setCell_same _ _ _ e2, fun j => by rw [World.frozen?_setCell, World.frozen?_setCell, World.frozen?_setCell]; exact h.fr j, by simpa using h.lt⟩
/-- A store into a new box leaves the elder blocks. -/
theorem Box2.more {w0 w : World} {B : Nat} {u v : Value} (h : More w0 w) (hB : w0.heap.size ≤ B) : More w0 ((w.setCell ⟨B, 0, none⟩ u).setCell ⟨B, 1, none⟩ v) := Turns.more (((h.turns []).setCell (.inr hB) _).setCell (.inr hB) _)
theorem Box3.more {w0 w : World} {B : Nat} {u v t : Value} (h : More w0 w) (hB : w0.heap.size ≤ B) : More w0 (((w.setCell ⟨B, 0, none⟩ u).setCell ⟨B, 1, none⟩ v).setCell ⟨B, 2, none⟩ t) := Turns.more ((((h.turns []).setCell (.inr hB) _).setCell (.inr hB) _).setCell (.inr hB) _)
theorem ints_box2 {w : World} {v : Value} {l : List Int} {B : Nat} {b : Bool} {p : Option Addr} {q t : Nat} {c0 c1 : Value} (h : tInts.at w [v] l) (hB : Box2 w B (.bool b) (.slice p q t)) : tInts.at ((w.setCell ⟨B, 0, none⟩ c0).setCell ⟨B, 1, none⟩ c1) [v] l := ints_set2 h hB.c0 hB.c1
theorem ints_box3 {w : World} {v : Value} {l : List Int} {B : Nat} {b : Bool} {p p' : Option Addr} {q t q' t' : Nat} {c0 c1 c2 : Value} (h : tInts.at w [v] l) (hB : Box3 w B (.bool b) (.slice p q t) (.slice p' q' t')) : tInts.at (((w.setCell ⟨B, 0, none⟩ c0).setCell ⟨B, 1, none⟩ c1).setCell ⟨B, 2, none⟩ c2) [v] l := ints_set3 h hB.c0 hB.c1 hB.c2
end Go.Proofs.YtnbefpfijaimjaaGreatDoor
