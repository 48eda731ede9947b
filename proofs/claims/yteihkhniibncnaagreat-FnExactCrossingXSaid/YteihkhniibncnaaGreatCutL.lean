/- What is in new memory beside a box that was made before or after it. It speaks of no program. -/
import Derived.Test.YteihkhniibncnaaGreatGBase
import Derived.Test.YteihkhniibncnaaGreatBx
namespace Go.Proofs.YteihkhniibncnaaGreat
open Go.RowKit
theorem fresh_after {α : Type} {S : Ty α} {B B' : Nat} {w : World} {cs : List Value} {x : α} (h : S.fresh B w cs x) (hB : B' ≤ B) (o : Obj) : ∃ bs, S.own bs (w.alloc o) cs x ∧ bs.Nodup ∧ (∀ b ∈ bs, B' ≤ b) ∧ w.heap.size ∉ bs := by
  obtain ⟨bs, h1, h2, h3⟩ := h
  exact ⟨bs, Ty.own_more h1 (Turns.more ((Turns.refl [] _).alloc _)), h2, fun b hb => Nat.le_trans hB (h3 b hb), fun hn => Nat.lt_irrefl _ (S.own_lt h1 _ hn)⟩
theorem fresh_before {α : Type} {S : Ty α} {B B' nb : Nat} {w w' : World} {cs : List Value} {x : α} (h : S.fresh B w cs x) (hB : B' ≤ B) (hn : nb < B) (t : Turns [nb] w w') : ∃ bs, S.own bs w' cs x ∧ bs.Nodup ∧ (∀ b ∈ bs, B' ≤ b) ∧ nb ∉ bs := by
  obtain ⟨bs, h1, h2, h3⟩ := h
  refine ⟨bs, Ty.own_turns h1 t (fun k hk hk2 => ?_), h2, fun b hb => Nat.le_trans hB (h3 b hb), fun hb => ?_⟩
  · simp only [List.mem_cons, List.not_mem_nil, or_false] at hk2
    subst hk2
    have := h3 _ hk
    omega
  · have := h3 _ hb
    omega
end Go.Proofs.YteihkhniibncnaaGreat
