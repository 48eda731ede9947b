/- The program's types read as data. -/
import Derived.Test.YtmibmiebanaojaaRows
import Derived.Test.YtmibmiebanaojaaFits
import Derived.Test.YtmibmiebanaojaaKin
namespace Go.Proofs.Ytmibmiebanaojaa
theorem cellsInt : (Try.prog).cellsOf 3 = 1 := by kernel_rfl
theorem fitsInt : Fits Try.prog 3 tInt := fits_int Try.underlying3
theorem cellsBool : (Try.prog).cellsOf 4 = 1 := by kernel_rfl
theorem fitsBool : Fits Try.prog 4 tBool := fits_bool Try.underlying4
theorem cellsLVec : (Try.prog).cellsOf 53 = 2 := by kernel_rfl
theorem fitsLVec : Fits Try.prog 53 tVec := fits_struct2 (S0 := tInt) (S1 := tInt) Try.underlying53 cellsLVec rfl cellsInt fitsInt rfl rfl cellsInt fitsInt
theorem cellsLVecS : (Try.prog).cellsOf 22 = 1 := by kernel_rfl
theorem fitsLVecS : Fits Try.prog 22 tVecs := fits_slice Try.underlying22 cellsLVec (by decide) fitsLVec
theorem cellsLVecSS : (Try.prog).cellsOf 54 = 1 := by kernel_rfl
theorem fitsLVecSS : Fits Try.prog 54 tVecSS := fits_slice Try.underlying54 cellsLVecS (by decide) fitsLVecS
theorem cellsLIntS : (Try.prog).cellsOf 36 = 1 := by kernel_rfl
theorem fitsLIntS : Fits Try.prog 36 tInts := fits_slice Try.underlying36 cellsInt (by decide) fitsInt
theorem cellsLIntSS : (Try.prog).cellsOf 148 = 1 := by kernel_rfl
theorem fitsLIntSS : Fits Try.prog 148 tIntSS := fits_slice Try.underlying148 cellsLIntS (by decide) fitsLIntS
theorem cellsLBigInt : (Try.prog).cellsOf 38 = 2 := by kernel_rfl
theorem fitsLBigInt : Fits Try.prog 38 tBig := fits_struct2 (S0 := tBool) (S1 := tInts) Try.underlying38 cellsLBigInt rfl cellsBool fitsBool rfl rfl cellsLIntS fitsLIntS
theorem cellsLRat : (Try.prog).cellsOf 40 = 3 := by kernel_rfl
theorem fitsLRat : Fits Try.prog 40 tRat := fits_struct2 (S0 := tBig) (S1 := tInts) Try.underlying40 cellsLRat rfl cellsLBigInt fitsLBigInt rfl rfl cellsLIntS fitsLIntS
theorem cellsLRatS : (Try.prog).cellsOf 35 = 1 := by kernel_rfl
theorem fitsLRatS : Fits Try.prog 35 tRatS := fits_slice Try.underlying35 cellsLRat (by decide) fitsLRat
theorem cellsLPoint : (Try.prog).cellsOf 109 = 6 := by kernel_rfl
theorem fitsLPoint : Fits Try.prog 109 tPoint := fits_struct2 (S0 := tRat) (S1 := tRat) Try.underlying109 cellsLPoint rfl cellsLRat fitsLRat rfl rfl cellsLRat fitsLRat
theorem cellsLBox : (Try.prog).cellsOf 130 = 4 := by kernel_rfl
theorem fitsLBox : Fits Try.prog 130 tBox := fits_struct2 (S0 := tVec) (S1 := tVec) Try.underlying130 cellsLBox rfl cellsLVec fitsLVec rfl rfl cellsLVec fitsLVec
theorem cellsLScene : (Try.prog).cellsOf 56 = 7 := by kernel_rfl
theorem fitsLScene : Fits Try.prog 56 tScene := fits_struct5 (S0 := tVec) (S1 := tVec) (S2 := tVecs) (S3 := tVecSS) (S4 := tVecs) Try.underlying56 cellsLScene rfl cellsLVec fitsLVec rfl rfl cellsLVec fitsLVec rfl rfl cellsLVecS fitsLVecS rfl rfl cellsLVecSS fitsLVecSS rfl rfl cellsLVecS fitsLVecS
theorem cellsLStep : (Try.prog).cellsOf 179 = 7 := by kernel_rfl
theorem fitsLStep : Fits Try.prog 179 tStep := fits_struct2 (S0 := tInt) (S1 := tPoint) Try.underlying179 cellsLStep rfl cellsInt fitsInt rfl rfl cellsLPoint fitsLPoint
theorem cellsLStepS : (Try.prog).cellsOf 64 = 1 := by kernel_rfl
theorem fitsLStepS : Fits Try.prog 64 tStepS := fits_slice Try.underlying64 cellsLStep (by decide) fitsLStep
theorem cellsLPlacement : (Try.prog).cellsOf 111 = 7 := by kernel_rfl
theorem fitsLPlacement : Fits Try.prog 111 tPlacement := fits_struct2 (S0 := tInt) (S1 := tPoint) Try.underlying111 cellsLPlacement rfl cellsInt fitsInt rfl rfl cellsLPoint fitsLPoint
theorem cellsLCell : (Try.prog).cellsOf 76 = 18 := by kernel_rfl
theorem fitsLCell : Fits Try.prog 76 tCell := fits_struct6 (S0 := tRat) (S1 := tRat) (S2 := tRat) (S3 := tRat) (S4 := tRat) (S5 := tRat) Try.underlying76 cellsLCell rfl cellsLRat fitsLRat rfl rfl cellsLRat fitsLRat rfl rfl cellsLRat fitsLRat rfl rfl cellsLRat fitsLRat rfl rfl cellsLRat fitsLRat rfl rfl cellsLRat fitsLRat
theorem cellsLCellS : (Try.prog).cellsOf 131 = 1 := by kernel_rfl
theorem fitsLCellS : Fits Try.prog 131 tCellS := fits_slice Try.underlying131 cellsLCell (by decide) fitsLCell
theorem cellsLWall : (Try.prog).cellsOf 256 = 9 := by kernel_rfl
theorem fitsLWall : Fits Try.prog 256 tWall := fits_struct3 (S0 := tRat) (S1 := tRat) (S2 := tRat) Try.underlying256 cellsLWall rfl cellsLRat fitsLRat rfl rfl cellsLRat fitsLRat rfl rfl cellsLRat fitsLRat
theorem cellsLWallS : (Try.prog).cellsOf 132 = 1 := by kernel_rfl
theorem fitsLWallS : Fits Try.prog 132 tWallS := fits_slice Try.underlying132 cellsLWall (by decide) fitsLWall
theorem cellsLDoor : (Try.prog).cellsOf 259 = 2 := by kernel_rfl
theorem fitsLDoor : Fits Try.prog 259 tDoor := fits_struct2 (S0 := tInt) (S1 := tInt) Try.underlying259 cellsLDoor rfl cellsInt fitsInt rfl rfl cellsInt fitsInt
theorem cellsLDoorS : (Try.prog).cellsOf 133 = 1 := by kernel_rfl
theorem fitsLDoorS : Fits Try.prog 133 tDoorS := fits_slice Try.underlying133 cellsLDoor (by decide) fitsLDoor
theorem cellsLSlice : (Try.prog).cellsOf 135 = 11 := by kernel_rfl
theorem fitsLSlice : Fits Try.prog 135 tSlc := fits_struct8 (S0 := tInt) (S1 := tBool) (S2 := tBox) (S3 := tVecSS) (S4 := tCellS) (S5 := tWallS) (S6 := tDoorS) (S7 := tInts) Try.underlying135 cellsLSlice rfl cellsInt fitsInt rfl rfl cellsBool fitsBool rfl rfl cellsLBox fitsLBox rfl rfl cellsLVecSS fitsLVecSS rfl rfl cellsLCellS fitsLCellS rfl rfl cellsLWallS fitsLWallS rfl rfl cellsLDoorS fitsLDoorS rfl rfl cellsLIntS fitsLIntS
theorem cellsLSliceS : (Try.prog).cellsOf 147 = 1 := by kernel_rfl
theorem fitsLSliceS : Fits Try.prog 147 tSlcS := fits_slice Try.underlying147 cellsLSlice (by decide) fitsLSlice
theorem cellsLRoad : (Try.prog).cellsOf 150 = 10 := by kernel_rfl
theorem fitsLRoad : Fits Try.prog 150 tRoad := fits_struct4 (S0 := tScene) (S1 := tSlcS) (S2 := tInts) (S3 := tIntSS) Try.underlying150 cellsLRoad rfl cellsLScene fitsLScene rfl rfl cellsLSliceS fitsLSliceS rfl rfl cellsLIntS fitsLIntS rfl rfl cellsLIntSS fitsLIntSS
end Go.Proofs.Ytmibmiebanaojaa
