/- The side of a cell. -/
import Derived.Test.YtnbefpfijaimjaaGreatDoorGPnt
import Derived.Test.YtnbefpfijaimjaaGreatDoorCpy
import Derived.Test.YtnbefpfijaimjaaGreatDoorGEqf
namespace Go.Proofs.YtnbefpfijaimjaaGreatDoor
open Go.RowKit
def csF (k : QCell) (x : QR) : QR × QR × Bool := if decide (x = k.1) then (k.2.2.1, k.2.2.2.2.1, true) else if decide (x = k.2.1) then (k.2.2.2.1, k.2.2.2.2.2, true) else (((false, []), []), ((false, []), []), false)
theorem pair_fr {B : Nat} {bs : List Nat} {w1 w2 W' : World} {c1 c2 : List Value} {x y : QR} (h1 : tRat.fresh B w1 c1 x) (h2 : tRat.fresh w1.heap.size w2 c2 y) (t1 : Turns bs w1 W') (t2 : Turns bs w2 W') (hk : ∀ k ∈ bs, k < B) (hB : B ≤ w1.heap.size) : tPoint.fresh B W' (c1 ++ c2) (x, y) :=
  Ty.fresh_pairT h1 t1 hk (Ty.fresh_turns h2 t2 (fun k h => by have := hk k h; omega)) hB
theorem zero_fr {B : Nat} {w : World} : tRat.fresh B w [.bool false, .slice none 0 0, .slice none 0 0] ((false, []), []) := by
  have h := RatFr.zero (B := B) (w := w)
  unfold RatFr encR encZ at h
  simpa [limbs_zero] using h
theorem zero2_fr {B : Nat} {w : World} (hB : B ≤ w.heap.size) : tPoint.fresh B w [.bool false, .slice none 0 0, .slice none 0 0, .bool false, .slice none 0 0, .slice none 0 0] (((false, []), []), ((false, []), [])) :=
  pair_fr (bs := []) (c1 := [.bool false, .slice none 0 0, .slice none 0 0]) zero_fr zero_fr (Turns.refl _ _) (Turns.refl _ _) (by simp) hB
theorem csF_parts {k : QCell} {x lo hi : QR} {P : QR → Prop} (h : csF k x = (lo, hi, true)) (h1 : P k.2.2.1) (h2 : P k.2.2.2.1) (h3 : P k.2.2.2.2.1) (h4 : P k.2.2.2.2.2) : P lo ∧ P hi := by
  unfold csF at h
  split at h
  · cases h; exact ⟨h1, h3⟩
  · split at h
    · cases h; exact ⟨h2, h4⟩
    · cases h
theorem csF_w {k : QCell} {x lo hi : QR} {ok : Bool} (h : csF k x = (lo, hi, ok)) (hw : wCell k ≤ 1048576) : wRat lo ≤ 1048576 ∧ wRat hi ≤ 1048576 := by
  unfold wCell at hw
  unfold csF at h
  split at h
  · cases h; exact ⟨by omega, by omega⟩
  · split at h
    · cases h; exact ⟨by omega, by omega⟩
    · cases h; exact ⟨by decide, by decide⟩
end Go.Proofs.YtnbefpfijaimjaaGreatDoor
