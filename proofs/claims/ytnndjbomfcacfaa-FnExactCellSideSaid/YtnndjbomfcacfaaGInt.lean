/- Several texts laid together; each has its own word at its head. -/
import Derived.Test.YtnndjbomfcacfaaCmp
import Derived.Test.YtnndjbomfcacfaaGBase
import Derived.Deep.RegionHeld3
/- Comparing raw fractions; lists of fractions. -/
namespace Go.Proofs.Ytnndjbomfcacfaa
open Go.RowKit
noncomputable def rCmp (x y : QR) : Int := frCmp (frOf x) (frOf y)
theorem rCmp_range (x y : QR) : -1 ≤ rCmp x y ∧ rCmp x y ≤ 1 := by
  unfold rCmp frCmp cmpI
  split
  · omega
  split
  · omega
  split <;> omega
/-- A built slice of things that hold memory. -/
theorem lit_at {α : Type} {S : Ty α} {w : World} {C : Array Value} {e : TypeId} {N n : Nat} (cs : List (List Value × α)) (hN : w.heap.size = N) (hC : C.toList = cs.flatMap Prod.fst) (hn : cs.length = n) (hs : n ≤ 1048576)
    (h : ∀ p ∈ cs, p.1.length = S.size ∧ S.at w p.1 p.2) : (tSlice S).at (w.alloc (.cells C e)) [.slice (some ⟨N, 0, none⟩) n n] (cs.map Prod.snd) := by
  subst hN
  subst hn
  refine ⟨some ⟨w.heap.size, 0, none⟩, cs.length, by simp, by simp, by unfold maxLen; omega, (fun e => by cases e), fun hl => ⟨w.heap.size, 0, rfl, trivial, by simp, fun k x hx => ?_⟩⟩
  rw [List.getElem?_map] at hx
  obtain ⟨p, hp, rfl⟩ := Option.map_eq_some_iff.1 hx
  refine ⟨p.1, Ty.at_more (h p (List.mem_of_getElem? hp)).2 (Turns.more ((Turns.refl [] _).alloc _)), fun j v hv => ?_⟩
  rw [box_new rfl (More.refl _), ← Array.getElem?_toList, hC]
  have hk := flatMap_chunk (f := Prod.fst) (s := S.size) cs (fun p hp => (h p hp).1) k p hp
  rw [← hk, List.getElem?_take] at hv
  split at hv
  · rw [List.getElem?_drop] at hv
    simpa using hv
  · cases hv
noncomputable def badR (x : QR) : Bool := !ratOkB x
theorem rats_small {l : List QR} (h : wRatS l ≤ 1048576) : l.length ≤ 1048576 ∧ ∀ x ∈ l, wRat x ≤ 1048576 := by
  have h : l.length + wsum wRat l ≤ 1048576 := h
  refine ⟨by omega, fun x hx => ?_⟩
  obtain ⟨i, hi, rfl⟩ := List.getElem_of_mem hx
  have := wsum_el (f := wRat) (List.getElem?_eq_getElem hi)
  omega
end Go.Proofs.Ytnndjbomfcacfaa
/- Whole numbers as fractions. -/
namespace Go.Proofs.Ytnndjbomfcacfaa
open Go.RowKit
theorem frInt_good {n : Int} (h : In64 n) : Good (frInt n) := (frInt_vd h).good (by show (1 : Nat) ≠ 0; decide)
theorem limbs_int {n : Int} (h : In64 n) : (limbs n.natAbs).length ≤ 3 := by
  have h1 := h.out
  refine limbs_len_le.2 ?_
  have h3 : bp 3 = 1000000000000000000000000000 := by decide
  rw [h3]
  omega
theorem int_raw {w : World} {n : Int} {s : Bool} {u v : Value} (hs : decide (n < 0) = s) (h : RatAt w (frInt n) u v) : tRat.at w [.bool s, u, v] (encR (frInt n)) := by
  rw [← hs]
  exact RatAt.out h
theorem ratOk_int {n : Int} (h : In64 n) : ratOkB (encR (frInt n)) = true := ratOk_iff.2 ⟨_, frInt_good h, rfl⟩
theorem wRat_good {f : Fr} (h : Vd f) : wRat (encR f) ≤ 1048576 := by
  have h1 := h.sm1
  have h2 := h.sm2
  show (limbs f.1.natAbs).length + (limbs f.2).length ≤ 1048576
  omega
theorem wRat_int {n : Int} (h : In64 n) : wRat (encR (frInt n)) ≤ 1048576 := wRat_good (frInt_vd h)
end Go.Proofs.Ytnndjbomfcacfaa
