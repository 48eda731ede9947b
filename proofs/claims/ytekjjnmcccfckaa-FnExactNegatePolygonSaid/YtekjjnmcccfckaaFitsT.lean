/- The program's types read as data. -/
import Derived.Test.YtekjjnmcccfckaaRows
import Derived.Test.YtekjjnmcccfckaaFits
namespace Go.Proofs.Ytekjjnmcccfckaa
theorem cellsInt : (Try.prog).cellsOf 3 = 1 := by kernel_rfl
theorem fitsInt : Fits Try.prog 3 tInt := fits_int Try.underlying3
theorem cellsLVec : (Try.prog).cellsOf 25 = 2 := by kernel_rfl
theorem fitsLVec : Fits Try.prog 25 tVec := fits_struct2 (S := tInt) (T := tInt) Try.underlying25 cellsLVec rfl cellsInt fitsInt rfl rfl cellsInt fitsInt
theorem fitsLVecS : Fits Try.prog 44 tVecs := fits_slice Try.underlying44 cellsLVec (by decide) fitsLVec
end Go.Proofs.Ytekjjnmcccfckaa
