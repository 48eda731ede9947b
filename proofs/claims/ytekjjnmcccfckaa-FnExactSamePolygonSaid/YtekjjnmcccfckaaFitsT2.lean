/- The program's types read as data. -/
import Derived.Test.YtekjjnmcccfckaaRows
import Derived.Test.YtekjjnmcccfckaaFits
import Derived.Test.YtekjjnmcccfckaaKin
namespace Go.Proofs.Ytekjjnmcccfckaa
theorem cellsInt : (Try.prog).cellsOf 3 = 1 := by kernel_rfl
theorem fitsInt : Fits Try.prog 3 tInt := fits_int Try.underlying3
theorem cellsBool : (Try.prog).cellsOf 4 = 1 := by kernel_rfl
theorem fitsBool : Fits Try.prog 4 tBool := fits_bool Try.underlying4
theorem cellsLVec : (Try.prog).cellsOf 25 = 2 := by kernel_rfl
theorem fitsLVec : Fits Try.prog 25 tVec := fits_struct2 (S0 := tInt) (S1 := tInt) Try.underlying25 cellsLVec rfl cellsInt fitsInt rfl rfl cellsInt fitsInt
theorem cellsLVecS : (Try.prog).cellsOf 44 = 1 := by kernel_rfl
theorem fitsLVecS : Fits Try.prog 44 tVecs := fits_slice Try.underlying44 cellsLVec (by decide) fitsLVec
theorem cellsLEdge : (Try.prog).cellsOf 27 = 6 := by kernel_rfl
theorem fitsLEdge : Fits Try.prog 27 tEdge := fits_struct4 (S0 := tVec) (S1 := tVec) (S2 := tInt) (S3 := tBool) Try.underlying27 cellsLEdge rfl cellsLVec fitsLVec rfl rfl cellsLVec fitsLVec rfl rfl cellsInt fitsInt rfl rfl cellsBool fitsBool
end Go.Proofs.Ytekjjnmcccfckaa
