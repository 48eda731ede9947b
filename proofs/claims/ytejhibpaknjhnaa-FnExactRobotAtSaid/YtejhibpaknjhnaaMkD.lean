/- Marks: what a list or a struct holds when every number that it owns has been set to its place in the count, and how many these are. It speaks of no program. -/
import Derived.Test.YtejhibpaknjhnaaFoc
namespace Go.Proofs.Ytejhibpaknjhnaa
def mkIntS (l : List Int) (k : Int) : List Int := mk1 l.length k
def cIntS (l : List Int) : Nat := l.length
theorem cIntS_le (l : List Int) : cIntS l ≤ 8 * wIntS l := by unfold cIntS wIntS; omega
def mkVecS (l : List QV) (k : Int) : List QV := mk2 l.length k
def cVecS (l : List QV) : Nat := 2 * l.length
theorem cVecS_le (l : List QV) : cVecS l ≤ 8 * wVecS l := by unfold cVecS wVecS; omega
def mkVecSS (l : List (List QV)) (k : Int) : List (List QV) := mkL mkVecS cVecS l k
def cVecSS (l : List (List QV)) : Nat := wsum cVecS l
theorem cVecSS_le (l : List (List QV)) : cVecSS l ≤ 8 * wVecSS l := by
  unfold cVecSS wVecSS
  exact wsum_mul (f := cVecS) (g := wVecS) (m := 8) (fun x => by have h := cVecS_le x; omega) l
def mkIntSS (l : List (List Int)) (k : Int) : List (List Int) := mkL mkIntS cIntS l k
def cIntSS (l : List (List Int)) : Nat := wsum cIntS l
theorem cIntSS_le (l : List (List Int)) : cIntSS l ≤ 8 * wIntSS l := by
  unfold cIntSS wIntSS
  exact wsum_mul (f := cIntS) (g := wIntS) (m := 8) (fun x => by have h := cIntS_le x; omega) l
def mkBigInt (x : Bool × List Int) (k : Int) : Bool × List Int := (x.1, mkIntS x.2 k)
def cBigInt (x : Bool × List Int) : Nat := cIntS x.2
theorem cBigInt_le (x : Bool × List Int) : cBigInt x ≤ 8 * wBigInt x := by have h0 := cIntS_le x.2; unfold cBigInt wBigInt; omega
def mkRat (x : QR) (k : Int) : QR := (mkBigInt x.1 k, mkIntS x.2 (k + ((cBigInt x.1 : Nat) : Int)))
def cRat (x : QR) : Nat := cBigInt x.1 + cIntS x.2
theorem cRat_le (x : QR) : cRat x ≤ 8 * wRat x := by have h0 := cBigInt_le x.1; have h1 := cIntS_le x.2; unfold cRat wRat; omega
def meRat (x : QR) (k : Int) : QR := (((k % 3 == 0), mkIntS x.1.2 (k + ((1 : Nat) : Int))), mkIntS x.2 (k + ((1 + cIntS x.1.2 : Nat) : Int)))
def ceRat (x : QR) : Nat := 1 + cIntS x.1.2 + cIntS x.2
def mkRatS (l : List (QR)) (k : Int) : List (QR) := mkL meRat ceRat l k
def cRatS (l : List (QR)) : Nat := wsum ceRat l
theorem cRatS_le (l : List (QR)) : cRatS l ≤ 8 * wRatS l := by
  unfold cRatS wRatS
  exact wsum_mul (f := ceRat) (g := wRat) (m := 8) (fun x => by have h1 := cIntS_le x.1.2; have h2 := cIntS_le x.2; unfold ceRat wRat wBigInt; omega) l
def mkPoint (x : QP) (k : Int) : QP := (mkRat x.1 k, mkRat x.2 (k + ((cRat x.1 : Nat) : Int)))
def cPoint (x : QP) : Nat := cRat x.1 + cRat x.2
theorem cPoint_le (x : QP) : cPoint x ≤ 8 * wPoint x := by have h0 := cRat_le x.1; have h1 := cRat_le x.2; unfold cPoint wPoint; omega
def mePoint (x : QP) (k : Int) : QP := ((((k % 3 == 0), mkIntS x.1.1.2 (k + ((1 : Nat) : Int))), mkIntS x.1.2 (k + ((1 + cIntS x.1.1.2 : Nat) : Int))), ((((k + ((1 + cIntS x.1.1.2 + cIntS x.1.2 : Nat) : Int)) % 3 == 0), mkIntS x.2.1.2 (k + ((1 + cIntS x.1.1.2 + cIntS x.1.2 + 1 : Nat) : Int))), mkIntS x.2.2 (k + ((1 + cIntS x.1.1.2 + cIntS x.1.2 + 1 + cIntS x.2.1.2 : Nat) : Int))))
def cePoint (x : QP) : Nat := 1 + cIntS x.1.1.2 + cIntS x.1.2 + 1 + cIntS x.2.1.2 + cIntS x.2.2
def mkPointS (l : List (QP)) (k : Int) : List (QP) := mkL mePoint cePoint l k
def cPointS (l : List (QP)) : Nat := wsum cePoint l
theorem cPointS_le (l : List (QP)) : cPointS l ≤ 8 * wPointS l := by
  unfold cPointS wPointS
  exact wsum_mul (f := cePoint) (g := wPoint) (m := 8) (fun x => by have h1 := cIntS_le x.1.1.2; have h2 := cIntS_le x.1.2; have h4 := cIntS_le x.2.1.2; have h5 := cIntS_le x.2.2; unfold cePoint wPoint wRat wBigInt; omega) l
def meEdge (_x : QE) (k : Int) : QE := ((k, (k + ((1 : Nat) : Int))), ((k + ((1 + 1 : Nat) : Int)), (k + ((1 + 1 + 1 : Nat) : Int))), (k + ((1 + 1 + 1 + 1 : Nat) : Int)), ((k + ((1 + 1 + 1 + 1 + 1 : Nat) : Int)) % 3 == 0))
def ceEdge (_x : QE) : Nat := 1 + 1 + 1 + 1 + 1 + 1
def mkEdgeS (l : List (QE)) (k : Int) : List (QE) := mkL meEdge ceEdge l k
def cEdgeS (l : List (QE)) : Nat := wsum ceEdge l
theorem cEdgeS_le (l : List (QE)) : cEdgeS l ≤ 8 * wEdgeS l := by
  unfold cEdgeS wEdgeS
  have h := wsum_mul (f := ceEdge) (g := fun _ => 0) (m := 6) (fun x => by unfold ceEdge; omega) l
  have h0 := wsum_zero l
  omega
def mkScene (x : QScene) (k : Int) : QScene := (x.1, x.2.1, mkVecS x.2.2.1 k, mkVecSS x.2.2.2.1 (k + ((cVecS x.2.2.1 : Nat) : Int)), mkVecS x.2.2.2.2 (k + ((cVecS x.2.2.1 + cVecSS x.2.2.2.1 : Nat) : Int)))
def cScene (x : QScene) : Nat := cVecS x.2.2.1 + cVecSS x.2.2.2.1 + cVecS x.2.2.2.2
theorem cScene_le (x : QScene) : cScene x ≤ 8 * wScene x := by have h0 := cVecS_le x.2.2.1; have h1 := cVecSS_le x.2.2.2.1; have h2 := cVecS_le x.2.2.2.2; unfold cScene wScene; omega
def mkStep (x : QStep) (k : Int) : QStep := (x.1, mkPoint x.2 k)
def cStep (x : QStep) : Nat := cPoint x.2
theorem cStep_le (x : QStep) : cStep x ≤ 8 * wStep x := by have h0 := cPoint_le x.2; unfold cStep wStep; omega
def meStep (x : QStep) (k : Int) : QStep := (k, (((((k + ((1 : Nat) : Int)) % 3 == 0), mkIntS x.2.1.1.2 (k + ((1 + 1 : Nat) : Int))), mkIntS x.2.1.2 (k + ((1 + 1 + cIntS x.2.1.1.2 : Nat) : Int))), ((((k + ((1 + 1 + cIntS x.2.1.1.2 + cIntS x.2.1.2 : Nat) : Int)) % 3 == 0), mkIntS x.2.2.1.2 (k + ((1 + 1 + cIntS x.2.1.1.2 + cIntS x.2.1.2 + 1 : Nat) : Int))), mkIntS x.2.2.2 (k + ((1 + 1 + cIntS x.2.1.1.2 + cIntS x.2.1.2 + 1 + cIntS x.2.2.1.2 : Nat) : Int)))))
def ceStep (x : QStep) : Nat := 1 + 1 + cIntS x.2.1.1.2 + cIntS x.2.1.2 + 1 + cIntS x.2.2.1.2 + cIntS x.2.2.2
def mkStepS (l : List (QStep)) (k : Int) : List (QStep) := mkL meStep ceStep l k
def cStepS (l : List (QStep)) : Nat := wsum ceStep l
theorem cStepS_le (l : List (QStep)) : cStepS l ≤ 8 * wStepS l := by
  unfold cStepS wStepS
  exact wsum_mul (f := ceStep) (g := wStep) (m := 8) (fun x => by have h2 := cIntS_le x.2.1.1.2; have h3 := cIntS_le x.2.1.2; have h5 := cIntS_le x.2.2.1.2; have h6 := cIntS_le x.2.2.2; unfold ceStep wStep wPoint wRat wBigInt; omega) l
def mkPlacement (x : QPlacement) (k : Int) : QPlacement := (x.1, mkPoint x.2 k)
def cPlacement (x : QPlacement) : Nat := cPoint x.2
theorem cPlacement_le (x : QPlacement) : cPlacement x ≤ 8 * wPlacement x := by have h0 := cPoint_le x.2; unfold cPlacement wPlacement; omega
def mkCell (x : QCell) (k : Int) : QCell := (mkRat x.1 k, mkRat x.2.1 (k + ((cRat x.1 : Nat) : Int)), mkRat x.2.2.1 (k + ((cRat x.1 + cRat x.2.1 : Nat) : Int)), mkRat x.2.2.2.1 (k + ((cRat x.1 + cRat x.2.1 + cRat x.2.2.1 : Nat) : Int)), mkRat x.2.2.2.2.1 (k + ((cRat x.1 + cRat x.2.1 + cRat x.2.2.1 + cRat x.2.2.2.1 : Nat) : Int)), mkRat x.2.2.2.2.2 (k + ((cRat x.1 + cRat x.2.1 + cRat x.2.2.1 + cRat x.2.2.2.1 + cRat x.2.2.2.2.1 : Nat) : Int)))
def cCell (x : QCell) : Nat := cRat x.1 + cRat x.2.1 + cRat x.2.2.1 + cRat x.2.2.2.1 + cRat x.2.2.2.2.1 + cRat x.2.2.2.2.2
theorem cCell_le (x : QCell) : cCell x ≤ 8 * wCell x := by have h0 := cRat_le x.1; have h1 := cRat_le x.2.1; have h2 := cRat_le x.2.2.1; have h3 := cRat_le x.2.2.2.1; have h4 := cRat_le x.2.2.2.2.1; have h5 := cRat_le x.2.2.2.2.2; unfold cCell wCell; omega
def meCell (x : QCell) (k : Int) : QCell := ((((k % 3 == 0), mkIntS x.1.1.2 (k + ((1 : Nat) : Int))), mkIntS x.1.2 (k + ((1 + cIntS x.1.1.2 : Nat) : Int))), ((((k + ((1 + cIntS x.1.1.2 + cIntS x.1.2 : Nat) : Int)) % 3 == 0), mkIntS x.2.1.1.2 (k + ((1 + cIntS x.1.1.2 + cIntS x.1.2 + 1 : Nat) : Int))), mkIntS x.2.1.2 (k + ((1 + cIntS x.1.1.2 + cIntS x.1.2 + 1 + cIntS x.2.1.1.2 : Nat) : Int))), ((((k + ((1 + cIntS x.1.1.2 + cIntS x.1.2 + 1 + cIntS x.2.1.1.2 + cIntS x.2.1.2 : Nat) : Int)) % 3 == 0), mkIntS x.2.2.1.1.2 (k + ((1 + cIntS x.1.1.2 + cIntS x.1.2 + 1 + cIntS x.2.1.1.2 + cIntS x.2.1.2 + 1 : Nat) : Int))), mkIntS x.2.2.1.2 (k + ((1 + cIntS x.1.1.2 + cIntS x.1.2 + 1 + cIntS x.2.1.1.2 + cIntS x.2.1.2 + 1 + cIntS x.2.2.1.1.2 : Nat) : Int))), ((((k + ((1 + cIntS x.1.1.2 + cIntS x.1.2 + 1 + cIntS x.2.1.1.2 + cIntS x.2.1.2 + 1 + cIntS x.2.2.1.1.2 + cIntS x.2.2.1.2 : Nat) : Int)) % 3 == 0), mkIntS x.2.2.2.1.1.2 (k + ((1 + cIntS x.1.1.2 + cIntS x.1.2 + 1 + cIntS x.2.1.1.2 + cIntS x.2.1.2 + 1 + cIntS x.2.2.1.1.2 + cIntS x.2.2.1.2 + 1 : Nat) : Int))), mkIntS x.2.2.2.1.2 (k + ((1 + cIntS x.1.1.2 + cIntS x.1.2 + 1 + cIntS x.2.1.1.2 + cIntS x.2.1.2 + 1 + cIntS x.2.2.1.1.2 + cIntS x.2.2.1.2 + 1 + cIntS x.2.2.2.1.1.2 : Nat) : Int))), ((((k + ((1 + cIntS x.1.1.2 + cIntS x.1.2 + 1 + cIntS x.2.1.1.2 + cIntS x.2.1.2 + 1 + cIntS x.2.2.1.1.2 + cIntS x.2.2.1.2 + 1 + cIntS x.2.2.2.1.1.2 + cIntS x.2.2.2.1.2 : Nat) : Int)) % 3 == 0), mkIntS x.2.2.2.2.1.1.2 (k + ((1 + cIntS x.1.1.2 + cIntS x.1.2 + 1 + cIntS x.2.1.1.2 + cIntS x.2.1.2 + 1 + cIntS x.2.2.1.1.2 + cIntS x.2.2.1.2 + 1 + cIntS x.2.2.2.1.1.2 + cIntS x.2.2.2.1.2 + 1 : Nat) : Int))), mkIntS x.2.2.2.2.1.2 (k + ((1 + cIntS x.1.1.2 + cIntS x.1.2 + 1 + cIntS x.2.1.1.2 + cIntS x.2.1.2 + 1 + cIntS x.2.2.1.1.2 + cIntS x.2.2.1.2 + 1 + cIntS x.2.2.2.1.1.2 + cIntS x.2.2.2.1.2 + 1 + cIntS x.2.2.2.2.1.1.2 : Nat) : Int))), ((((k + ((1 + cIntS x.1.1.2 + cIntS x.1.2 + 1 + cIntS x.2.1.1.2 + cIntS x.2.1.2 + 1 + cIntS x.2.2.1.1.2 + cIntS x.2.2.1.2 + 1 + cIntS x.2.2.2.1.1.2 + cIntS x.2.2.2.1.2 + 1 + cIntS x.2.2.2.2.1.1.2 + cIntS x.2.2.2.2.1.2 : Nat) : Int)) % 3 == 0), mkIntS x.2.2.2.2.2.1.2 (k + ((1 + cIntS x.1.1.2 + cIntS x.1.2 + 1 + cIntS x.2.1.1.2 + cIntS x.2.1.2 + 1 + cIntS x.2.2.1.1.2 + cIntS x.2.2.1.2 + 1 + cIntS x.2.2.2.1.1.2 + cIntS x.2.2.2.1.2 + 1 + cIntS x.2.2.2.2.1.1.2 + cIntS x.2.2.2.2.1.2 + 1 : Nat) : Int))), mkIntS x.2.2.2.2.2.2 (k + ((1 + cIntS x.1.1.2 + cIntS x.1.2 + 1 + cIntS x.2.1.1.2 + cIntS x.2.1.2 + 1 + cIntS x.2.2.1.1.2 + cIntS x.2.2.1.2 + 1 + cIntS x.2.2.2.1.1.2 + cIntS x.2.2.2.1.2 + 1 + cIntS x.2.2.2.2.1.1.2 + cIntS x.2.2.2.2.1.2 + 1 + cIntS x.2.2.2.2.2.1.2 : Nat) : Int))))
def ceCell (x : QCell) : Nat := 1 + cIntS x.1.1.2 + cIntS x.1.2 + 1 + cIntS x.2.1.1.2 + cIntS x.2.1.2 + 1 + cIntS x.2.2.1.1.2 + cIntS x.2.2.1.2 + 1 + cIntS x.2.2.2.1.1.2 + cIntS x.2.2.2.1.2 + 1 + cIntS x.2.2.2.2.1.1.2 + cIntS x.2.2.2.2.1.2 + 1 + cIntS x.2.2.2.2.2.1.2 + cIntS x.2.2.2.2.2.2
def mkCellS (l : List (QCell)) (k : Int) : List (QCell) := mkL meCell ceCell l k
def cCellS (l : List (QCell)) : Nat := wsum ceCell l
theorem cCellS_le (l : List (QCell)) : cCellS l ≤ 8 * wCellS l := by
  unfold cCellS wCellS
  exact wsum_mul (f := ceCell) (g := wCell) (m := 8) (fun x => by have h1 := cIntS_le x.1.1.2; have h2 := cIntS_le x.1.2; have h4 := cIntS_le x.2.1.1.2; have h5 := cIntS_le x.2.1.2; have h7 := cIntS_le x.2.2.1.1.2; have h8 := cIntS_le x.2.2.1.2; have h10 := cIntS_le x.2.2.2.1.1.2; have h11 := cIntS_le x.2.2.2.1.2; have h13 := cIntS_le x.2.2.2.2.1.1.2; have h14 := cIntS_le x.2.2.2.2.1.2; have h16 := cIntS_le x.2.2.2.2.2.1.2; have h17 := cIntS_le x.2.2.2.2.2.2; unfold ceCell wCell wRat wBigInt; omega) l
def mkWall (x : QWall) (k : Int) : QWall := (mkRat x.1 k, mkRat x.2.1 (k + ((cRat x.1 : Nat) : Int)), mkRat x.2.2 (k + ((cRat x.1 + cRat x.2.1 : Nat) : Int)))
def cWall (x : QWall) : Nat := cRat x.1 + cRat x.2.1 + cRat x.2.2
theorem cWall_le (x : QWall) : cWall x ≤ 8 * wWall x := by have h0 := cRat_le x.1; have h1 := cRat_le x.2.1; have h2 := cRat_le x.2.2; unfold cWall wWall; omega
def meWall (x : QWall) (k : Int) : QWall := ((((k % 3 == 0), mkIntS x.1.1.2 (k + ((1 : Nat) : Int))), mkIntS x.1.2 (k + ((1 + cIntS x.1.1.2 : Nat) : Int))), ((((k + ((1 + cIntS x.1.1.2 + cIntS x.1.2 : Nat) : Int)) % 3 == 0), mkIntS x.2.1.1.2 (k + ((1 + cIntS x.1.1.2 + cIntS x.1.2 + 1 : Nat) : Int))), mkIntS x.2.1.2 (k + ((1 + cIntS x.1.1.2 + cIntS x.1.2 + 1 + cIntS x.2.1.1.2 : Nat) : Int))), ((((k + ((1 + cIntS x.1.1.2 + cIntS x.1.2 + 1 + cIntS x.2.1.1.2 + cIntS x.2.1.2 : Nat) : Int)) % 3 == 0), mkIntS x.2.2.1.2 (k + ((1 + cIntS x.1.1.2 + cIntS x.1.2 + 1 + cIntS x.2.1.1.2 + cIntS x.2.1.2 + 1 : Nat) : Int))), mkIntS x.2.2.2 (k + ((1 + cIntS x.1.1.2 + cIntS x.1.2 + 1 + cIntS x.2.1.1.2 + cIntS x.2.1.2 + 1 + cIntS x.2.2.1.2 : Nat) : Int))))
def ceWall (x : QWall) : Nat := 1 + cIntS x.1.1.2 + cIntS x.1.2 + 1 + cIntS x.2.1.1.2 + cIntS x.2.1.2 + 1 + cIntS x.2.2.1.2 + cIntS x.2.2.2
def mkWallS (l : List (QWall)) (k : Int) : List (QWall) := mkL meWall ceWall l k
def cWallS (l : List (QWall)) : Nat := wsum ceWall l
theorem cWallS_le (l : List (QWall)) : cWallS l ≤ 8 * wWallS l := by
  unfold cWallS wWallS
  exact wsum_mul (f := ceWall) (g := wWall) (m := 8) (fun x => by have h1 := cIntS_le x.1.1.2; have h2 := cIntS_le x.1.2; have h4 := cIntS_le x.2.1.1.2; have h5 := cIntS_le x.2.1.2; have h7 := cIntS_le x.2.2.1.2; have h8 := cIntS_le x.2.2.2; unfold ceWall wWall wRat wBigInt; omega) l
def meDoor (_x : QDoor) (k : Int) : QDoor := (k, (k + ((1 : Nat) : Int)))
def ceDoor (_x : QDoor) : Nat := 1 + 1
def mkDoorS (l : List (QDoor)) (k : Int) : List (QDoor) := mkL meDoor ceDoor l k
def cDoorS (l : List (QDoor)) : Nat := wsum ceDoor l
theorem cDoorS_le (l : List (QDoor)) : cDoorS l ≤ 8 * wDoorS l := by
  unfold cDoorS wDoorS
  have h := wsum_mul (f := ceDoor) (g := fun _ => 0) (m := 2) (fun x => by unfold ceDoor; omega) l
  have h0 := wsum_zero l
  omega
def mkSlice (x : QSlice) (k : Int) : QSlice := (x.1, x.2.1, x.2.2.1, mkVecSS x.2.2.2.1 k, mkCellS x.2.2.2.2.1 (k + ((cVecSS x.2.2.2.1 : Nat) : Int)), mkWallS x.2.2.2.2.2.1 (k + ((cVecSS x.2.2.2.1 + cCellS x.2.2.2.2.1 : Nat) : Int)), mkDoorS x.2.2.2.2.2.2.1 (k + ((cVecSS x.2.2.2.1 + cCellS x.2.2.2.2.1 + cWallS x.2.2.2.2.2.1 : Nat) : Int)), mkIntS x.2.2.2.2.2.2.2 (k + ((cVecSS x.2.2.2.1 + cCellS x.2.2.2.2.1 + cWallS x.2.2.2.2.2.1 + cDoorS x.2.2.2.2.2.2.1 : Nat) : Int)))
def cSlice (x : QSlice) : Nat := cVecSS x.2.2.2.1 + cCellS x.2.2.2.2.1 + cWallS x.2.2.2.2.2.1 + cDoorS x.2.2.2.2.2.2.1 + cIntS x.2.2.2.2.2.2.2
theorem cSlice_le (x : QSlice) : cSlice x ≤ 8 * wSlice x := by have h0 := cVecSS_le x.2.2.2.1; have h1 := cCellS_le x.2.2.2.2.1; have h2 := cWallS_le x.2.2.2.2.2.1; have h3 := cDoorS_le x.2.2.2.2.2.2.1; have h4 := cIntS_le x.2.2.2.2.2.2.2; unfold cSlice wSlice; omega
def meSlice (x : QSlice) (k : Int) : QSlice := (k, ((k + ((1 : Nat) : Int)) % 3 == 0), (((k + ((1 + 1 : Nat) : Int)), (k + ((1 + 1 + 1 : Nat) : Int))), ((k + ((1 + 1 + 1 + 1 : Nat) : Int)), (k + ((1 + 1 + 1 + 1 + 1 : Nat) : Int)))), mkVecSS x.2.2.2.1 (k + ((1 + 1 + 1 + 1 + 1 + 1 : Nat) : Int)), mkCellS x.2.2.2.2.1 (k + ((1 + 1 + 1 + 1 + 1 + 1 + cVecSS x.2.2.2.1 : Nat) : Int)), mkWallS x.2.2.2.2.2.1 (k + ((1 + 1 + 1 + 1 + 1 + 1 + cVecSS x.2.2.2.1 + cCellS x.2.2.2.2.1 : Nat) : Int)), mkDoorS x.2.2.2.2.2.2.1 (k + ((1 + 1 + 1 + 1 + 1 + 1 + cVecSS x.2.2.2.1 + cCellS x.2.2.2.2.1 + cWallS x.2.2.2.2.2.1 : Nat) : Int)), mkIntS x.2.2.2.2.2.2.2 (k + ((1 + 1 + 1 + 1 + 1 + 1 + cVecSS x.2.2.2.1 + cCellS x.2.2.2.2.1 + cWallS x.2.2.2.2.2.1 + cDoorS x.2.2.2.2.2.2.1 : Nat) : Int)))
def ceSlice (x : QSlice) : Nat := 1 + 1 + 1 + 1 + 1 + 1 + cVecSS x.2.2.2.1 + cCellS x.2.2.2.2.1 + cWallS x.2.2.2.2.2.1 + cDoorS x.2.2.2.2.2.2.1 + cIntS x.2.2.2.2.2.2.2
def mkSliceS (l : List (QSlice)) (k : Int) : List (QSlice) := mkL meSlice ceSlice l k
def cSliceS (l : List (QSlice)) : Nat := wsum ceSlice l
theorem cSliceS_le (l : List (QSlice)) : cSliceS l ≤ 8 * wSliceS l := by
  unfold cSliceS wSliceS
  exact wsum_mul (f := ceSlice) (g := wSlice) (m := 8) (fun x => by have h6 := cVecSS_le x.2.2.2.1; have h7 := cCellS_le x.2.2.2.2.1; have h8 := cWallS_le x.2.2.2.2.2.1; have h9 := cDoorS_le x.2.2.2.2.2.2.1; have h10 := cIntS_le x.2.2.2.2.2.2.2; unfold ceSlice wSlice; omega) l
def mkRoad (x : QRoad) (k : Int) : QRoad := (mkScene x.1 k, mkSliceS x.2.1 (k + ((cScene x.1 : Nat) : Int)), mkIntS x.2.2.1 (k + ((cScene x.1 + cSliceS x.2.1 : Nat) : Int)), mkIntSS x.2.2.2 (k + ((cScene x.1 + cSliceS x.2.1 + cIntS x.2.2.1 : Nat) : Int)))
def cRoad (x : QRoad) : Nat := cScene x.1 + cSliceS x.2.1 + cIntS x.2.2.1 + cIntSS x.2.2.2
theorem cRoad_le (x : QRoad) : cRoad x ≤ 8 * wRoad x := by have h0 := cScene_le x.1; have h1 := cSliceS_le x.2.1; have h2 := cIntS_le x.2.2.1; have h3 := cIntSS_le x.2.2.2; unfold cRoad wRoad; omega
end Go.Proofs.Ytejhibpaknjhnaa
