/- Marks of lists of numbers and of vectors, in the words of the other kinds. -/
import Derived.Test.YtejhibpaknjhnaaMkD
import Derived.Test.YtejhibpaknjhnaaVecS
namespace Go.Proofs.Ytejhibpaknjhnaa
open Go.RowKit
variable {α : Type}
theorem mk_eq {S : Ty α} {bs : List Nat} {w : World} {cs : List Value} {x y : α} (h : S.own bs w cs x) (e : y = x) : S.own bs w cs y := by rw [e]; exact h
theorem mk_at {S : Ty α} {w : World} {cs : List Value} {x y : α} (h : S.at w cs x) (e : x = y) : S.at w cs y := by rw [← e]; exact h
theorem at_split {β : Type} {A : Ty α} {B : Ty β} {w : World} {c1 c2 cs : List Value} {x : α × β} (h : (tProd A B).at w cs x) (e : cs = c1 ++ c2) (hl : c1.length = A.size := by rfl) : A.at w c1 x.1 ∧ B.at w c2 x.2 := by
  obtain ⟨d1, d2, h1, h2, h3⟩ := h
  have l1 := A.len h2
  rw [e] at h1
  obtain ⟨rfl, rfl⟩ := List.append_inj h1 (by rw [hl, l1])
  exact ⟨h2, h3⟩
theorem laws_markIntS_ (bs : List Nat) (v : Value) (l : List Int) (q : Int) (w : World) (hv : tInts.own bs w [v] l) (_ : bs.Nodup) (h0 : 0 ≤ q) (h1 : q + (cIntS l : Nat) ≤ 1000000000) (hl : wIntS l ≤ 1048576) :
    Calls Try.prog 101 #[v, .int .i64 q] w fun e w' => e = .returned (.int .i64 (q + (cIntS l : Nat))) ∧ Turns bs w w' ∧ tInts.own bs w' [v] (mkIntS l q) :=
  laws_markIntS bs v l q w hv h0 (by omega) hl
theorem laws_heldIntS_ (v : Value) (l : List Int) (q : Int) (w : World) (hv : tInts.at w [v] (mkIntS l q)) (h0 : 0 ≤ q) (h1 : q + (cIntS l : Nat) ≤ 1000000000) (hl : wIntS l ≤ 1048576) :
    Calls Try.prog 102 #[v, .int .i64 q] w fun e w' => e = .returned (.int .i64 (q + (cIntS l : Nat))) ∧ More w w' :=
  laws_heldIntS v l.length q w hv h0 (by omega) hl
theorem laws_markVecS_ (bs : List Nat) (v : Value) (l : List QV) (q : Int) (w : World) (hv : tVecs.own bs w [v] l) (_ : bs.Nodup) (h0 : 0 ≤ q) (h1 : q + (cVecS l : Nat) ≤ 1000000000) (hl : wVecS l ≤ 1048576) :
    Calls Try.prog 30 #[v, .int .i64 q] w fun e w' => e = .returned (.int .i64 (q + (cVecS l : Nat))) ∧ Turns bs w w' ∧ tVecs.own bs w' [v] (mkVecS l q) := by
  refine (laws_markVecS bs v l q w hv h0 (by omega) hl).mono ?_
  rintro e w' ⟨rfl, h1, h2⟩
  exact ⟨ret_int (by unfold cVecS; omega), h1, h2⟩
theorem laws_heldVecS_ (v : Value) (l : List QV) (q : Int) (w : World) (hv : tVecs.at w [v] (mkVecS l q)) (h0 : 0 ≤ q) (h1 : q + (cVecS l : Nat) ≤ 1000000000) (hl : wVecS l ≤ 1048576) :
    Calls Try.prog 31 #[v, .int .i64 q] w fun e w' => e = .returned (.int .i64 (q + (cVecS l : Nat))) ∧ More w w' := by
  refine (laws_heldVecS v l.length q w hv h0 (by omega) hl).mono ?_
  rintro e w' ⟨rfl, h1⟩
  exact ⟨ret_int (by unfold cVecS; omega), h1⟩
end Go.Proofs.Ytejhibpaknjhnaa
