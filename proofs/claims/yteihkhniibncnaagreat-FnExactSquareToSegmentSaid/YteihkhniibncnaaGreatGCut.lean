/- Several texts laid together; each has its own word at its head. -/
import Derived.Test.YteihkhniibncnaaGreatGBase
import Derived.Test.YteihkhniibncnaaGreatBx
import Derived.Test.YteihkhniibncnaaGreatGMk
/- What is in new memory beside a box that was made before or after it. It speaks of no program. -/
namespace Go.Proofs.YteihkhniibncnaaGreat
open Go.RowKit
theorem fresh_after {α : Type} {S : Ty α} {B B' : Nat} {w : World} {cs : List Value} {x : α} (h : S.fresh B w cs x) (hB : B' ≤ B) (o : Obj) : ∃ bs, S.own bs (w.alloc o) cs x ∧ bs.Nodup ∧ (∀ b ∈ bs, B' ≤ b) ∧ w.heap.size ∉ bs := by
  obtain ⟨bs, h1, h2, h3⟩ := h
  exact ⟨bs, Ty.own_more h1 (Turns.more ((Turns.refl [] _).alloc _)), h2, fun b hb => Nat.le_trans hB (h3 b hb), fun hn => Nat.lt_irrefl _ (S.own_lt h1 _ hn)⟩
theorem fresh_before {α : Type} {S : Ty α} {B B' nb : Nat} {w w' : World} {cs : List Value} {x : α} (h : S.fresh B w cs x) (hB : B' ≤ B) (hn : nb < B) (t : Turns [nb] w w') : ∃ bs, S.own bs w' cs x ∧ bs.Nodup ∧ (∀ b ∈ bs, B' ≤ b) ∧ nb ∉ bs := by
  obtain ⟨bs, h1, h2, h3⟩ := h
  refine ⟨bs, Ty.own_turns h1 t (fun k hk hk2 => ?_), h2, fun b hb => Nat.le_trans hB (h3 b hb), fun hb => ?_⟩
  · simp only [List.mem_cons, List.not_mem_nil, or_false] at hk2
    subst hk2
    have := h3 _ hk
    omega
  · have := h3 _ hb
    omega
end Go.Proofs.YteihkhniibncnaaGreat
/- What a box holds: made, kept, past marks. It speaks of no program. -/
namespace Go.Proofs.YteihkhniibncnaaGreat
open Go.RowKit
theorem kp1 {w w' : World} {N : Nat} {c0 : Value} (m : More w w') (hl : N < w.heap.size) (h : w.cell? ⟨N, 0, none⟩ = some c0) : w'.cell? ⟨N, 0, none⟩ = some c0 := box_keep m hl h
theorem kp2 {w w' : World} {N : Nat} {c0 c1 : Value} (m : More w w') (hl : N < w.heap.size) (h : w.cell? ⟨N, 0, none⟩ = some c0 ∧ w.cell? ⟨N, 1, none⟩ = some c1) : w'.cell? ⟨N, 0, none⟩ = some c0 ∧ w'.cell? ⟨N, 1, none⟩ = some c1 := ⟨box_keep m hl h.1, box_keep m hl h.2⟩
theorem nw3 {X w' : World} {t : TypeId} {N : Nat} {c0 c1 c2 : Value} (hN : X.heap.size = N) (h : More (X.alloc (.cells #[c0, c1, c2] t)) w') : w'.cell? ⟨N, 0, none⟩ = some c0 ∧ w'.cell? ⟨N, 1, none⟩ = some c1 ∧ w'.cell? ⟨N, 2, none⟩ = some c2 := ⟨box_new hN h 0, box_new hN h 1, box_new hN h 2⟩
theorem tc3 {w w' : World} {bs : List Nat} {N : Nat} {c0 c1 c2 : Value} (T : Turns bs w w') (hl : N < w.heap.size) (hn : N ∉ bs) (h : w.cell? ⟨N, 0, none⟩ = some c0 ∧ w.cell? ⟨N, 1, none⟩ = some c1 ∧ w.cell? ⟨N, 2, none⟩ = some c2) : w'.cell? ⟨N, 0, none⟩ = some c0 ∧ w'.cell? ⟨N, 1, none⟩ = some c1 ∧ w'.cell? ⟨N, 2, none⟩ = some c2 := ⟨turn_cell T hl hn h.1, turn_cell T hl hn h.2.1, turn_cell T hl hn h.2.2⟩
theorem kp3 {w w' : World} {N : Nat} {c0 c1 c2 : Value} (m : More w w') (hl : N < w.heap.size) (h : w.cell? ⟨N, 0, none⟩ = some c0 ∧ w.cell? ⟨N, 1, none⟩ = some c1 ∧ w.cell? ⟨N, 2, none⟩ = some c2) : w'.cell? ⟨N, 0, none⟩ = some c0 ∧ w'.cell? ⟨N, 1, none⟩ = some c1 ∧ w'.cell? ⟨N, 2, none⟩ = some c2 := ⟨box_keep m hl h.1, box_keep m hl h.2.1, box_keep m hl h.2.2⟩
theorem nw6 {X w' : World} {t : TypeId} {N : Nat} {c0 c1 c2 c3 c4 c5 : Value} (hN : X.heap.size = N) (h : More (X.alloc (.cells #[c0, c1, c2, c3, c4, c5] t)) w') : w'.cell? ⟨N, 0, none⟩ = some c0 ∧ w'.cell? ⟨N, 1, none⟩ = some c1 ∧ w'.cell? ⟨N, 2, none⟩ = some c2 ∧ w'.cell? ⟨N, 3, none⟩ = some c3 ∧ w'.cell? ⟨N, 4, none⟩ = some c4 ∧ w'.cell? ⟨N, 5, none⟩ = some c5 := ⟨box_new hN h 0, box_new hN h 1, box_new hN h 2, box_new hN h 3, box_new hN h 4, box_new hN h 5⟩
theorem tc6 {w w' : World} {bs : List Nat} {N : Nat} {c0 c1 c2 c3 c4 c5 : Value} (T : Turns bs w w') (hl : N < w.heap.size) (hn : N ∉ bs) (h : w.cell? ⟨N, 0, none⟩ = some c0 ∧ w.cell? ⟨N, 1, none⟩ = some c1 ∧ w.cell? ⟨N, 2, none⟩ = some c2 ∧ w.cell? ⟨N, 3, none⟩ = some c3 ∧ w.cell? ⟨N, 4, none⟩ = some c4 ∧ w.cell? ⟨N, 5, none⟩ = some c5) : w'.cell? ⟨N, 0, none⟩ = some c0 ∧ w'.cell? ⟨N, 1, none⟩ = some c1 ∧ w'.cell? ⟨N, 2, none⟩ = some c2 ∧ w'.cell? ⟨N, 3, none⟩ = some c3 ∧ w'.cell? ⟨N, 4, none⟩ = some c4 ∧ w'.cell? ⟨N, 5, none⟩ = some c5 := ⟨turn_cell T hl hn h.1, turn_cell T hl hn h.2.1, turn_cell T hl hn h.2.2.1, turn_cell T hl hn h.2.2.2.1, turn_cell T hl hn h.2.2.2.2.1, turn_cell T hl hn h.2.2.2.2.2⟩
theorem kp6 {w w' : World} {N : Nat} {c0 c1 c2 c3 c4 c5 : Value} (m : More w w') (hl : N < w.heap.size) (h : w.cell? ⟨N, 0, none⟩ = some c0 ∧ w.cell? ⟨N, 1, none⟩ = some c1 ∧ w.cell? ⟨N, 2, none⟩ = some c2 ∧ w.cell? ⟨N, 3, none⟩ = some c3 ∧ w.cell? ⟨N, 4, none⟩ = some c4 ∧ w.cell? ⟨N, 5, none⟩ = some c5) : w'.cell? ⟨N, 0, none⟩ = some c0 ∧ w'.cell? ⟨N, 1, none⟩ = some c1 ∧ w'.cell? ⟨N, 2, none⟩ = some c2 ∧ w'.cell? ⟨N, 3, none⟩ = some c3 ∧ w'.cell? ⟨N, 4, none⟩ = some c4 ∧ w'.cell? ⟨N, 5, none⟩ = some c5 := ⟨box_keep m hl h.1, box_keep m hl h.2.1, box_keep m hl h.2.2.1, box_keep m hl h.2.2.2.1, box_keep m hl h.2.2.2.2.1, box_keep m hl h.2.2.2.2.2⟩
end Go.Proofs.YteihkhniibncnaaGreat
