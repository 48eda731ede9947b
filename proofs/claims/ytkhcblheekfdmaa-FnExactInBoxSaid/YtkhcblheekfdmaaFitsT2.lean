/- The program's types read as data. -/
import Derived.Test.YtkhcblheekfdmaaRows
import Derived.Test.YtkhcblheekfdmaaFits
import Derived.Test.YtkhcblheekfdmaaKin
namespace Go.Proofs.Ytkhcblheekfdmaa
theorem cellsInt : (Try.prog).cellsOf 3 = 1 := by kernel_rfl
theorem fitsInt : Fits Try.prog 3 tInt := fits_int Try.underlying3
theorem cellsBool : (Try.prog).cellsOf 4 = 1 := by kernel_rfl
theorem fitsBool : Fits Try.prog 4 tBool := fits_bool Try.underlying4
theorem cellsLVec : (Try.prog).cellsOf 61 = 2 := by kernel_rfl
theorem fitsLVec : Fits Try.prog 61 tVec := fits_struct2 (S0 := tInt) (S1 := tInt) Try.underlying61 cellsLVec rfl cellsInt fitsInt rfl rfl cellsInt fitsInt
theorem cellsLIntS : (Try.prog).cellsOf 28 = 1 := by kernel_rfl
theorem fitsLIntS : Fits Try.prog 28 tInts := fits_slice Try.underlying28 cellsInt (by decide) fitsInt
theorem cellsLBigInt : (Try.prog).cellsOf 42 = 2 := by kernel_rfl
theorem fitsLBigInt : Fits Try.prog 42 tBig := fits_struct2 (S0 := tBool) (S1 := tInts) Try.underlying42 cellsLBigInt rfl cellsBool fitsBool rfl rfl cellsLIntS fitsLIntS
theorem cellsLRat : (Try.prog).cellsOf 44 = 3 := by kernel_rfl
theorem fitsLRat : Fits Try.prog 44 tRat := fits_struct2 (S0 := tBig) (S1 := tInts) Try.underlying44 cellsLRat rfl cellsLBigInt fitsLBigInt rfl rfl cellsLIntS fitsLIntS
theorem cellsLRatS : (Try.prog).cellsOf 54 = 1 := by kernel_rfl
theorem fitsLRatS : Fits Try.prog 54 tRatS := fits_slice Try.underlying54 cellsLRat (by decide) fitsLRat
theorem cellsLPoint : (Try.prog).cellsOf 82 = 6 := by kernel_rfl
theorem fitsLPoint : Fits Try.prog 82 tPoint := fits_struct2 (S0 := tRat) (S1 := tRat) Try.underlying82 cellsLPoint rfl cellsLRat fitsLRat rfl rfl cellsLRat fitsLRat
theorem cellsLPointS : (Try.prog).cellsOf 103 = 1 := by kernel_rfl
theorem fitsLPointS : Fits Try.prog 103 tPointS := fits_slice Try.underlying103 cellsLPoint (by decide) fitsLPoint
theorem cellsLEdge : (Try.prog).cellsOf 63 = 6 := by kernel_rfl
theorem fitsLEdge : Fits Try.prog 63 tEdge := fits_struct4 (S0 := tVec) (S1 := tVec) (S2 := tInt) (S3 := tBool) Try.underlying63 cellsLEdge rfl cellsLVec fitsLVec rfl rfl cellsLVec fitsLVec rfl rfl cellsInt fitsInt rfl rfl cellsBool fitsBool
theorem cellsLBox : (Try.prog).cellsOf 80 = 4 := by kernel_rfl
theorem fitsLBox : Fits Try.prog 80 tBox := fits_struct2 (S0 := tVec) (S1 := tVec) Try.underlying80 cellsLBox rfl cellsLVec fitsLVec rfl rfl cellsLVec fitsLVec
theorem cellsLCell : (Try.prog).cellsOf 71 = 18 := by kernel_rfl
theorem fitsLCell : Fits Try.prog 71 tCell := fits_struct6 (S0 := tRat) (S1 := tRat) (S2 := tRat) (S3 := tRat) (S4 := tRat) (S5 := tRat) Try.underlying71 cellsLCell rfl cellsLRat fitsLRat rfl rfl cellsLRat fitsLRat rfl rfl cellsLRat fitsLRat rfl rfl cellsLRat fitsLRat rfl rfl cellsLRat fitsLRat rfl rfl cellsLRat fitsLRat
theorem cellsLWall : (Try.prog).cellsOf 46 = 9 := by kernel_rfl
theorem fitsLWall : Fits Try.prog 46 tWall := fits_struct3 (S0 := tRat) (S1 := tRat) (S2 := tRat) Try.underlying46 cellsLWall rfl cellsLRat fitsLRat rfl rfl cellsLRat fitsLRat rfl rfl cellsLRat fitsLRat
end Go.Proofs.Ytkhcblheekfdmaa
