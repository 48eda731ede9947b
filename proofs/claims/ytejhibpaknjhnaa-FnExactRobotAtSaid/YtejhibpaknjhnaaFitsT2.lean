/- The program's types read as data. -/
import Derived.Test.YtejhibpaknjhnaaRows
import Derived.Test.YtejhibpaknjhnaaFits
import Derived.Test.YtejhibpaknjhnaaKin
namespace Go.Proofs.Ytejhibpaknjhnaa
theorem cellsInt : (Try.prog).cellsOf 3 = 1 := by kernel_rfl
theorem fitsInt : Fits Try.prog 3 tInt := fits_int Try.underlying3
theorem cellsBool : (Try.prog).cellsOf 4 = 1 := by kernel_rfl
theorem fitsBool : Fits Try.prog 4 tBool := fits_bool Try.underlying4
theorem cellsLVec : (Try.prog).cellsOf 80 = 2 := by kernel_rfl
theorem fitsLVec : Fits Try.prog 80 tVec := fits_struct2 (S0 := tInt) (S1 := tInt) Try.underlying80 cellsLVec rfl cellsInt fitsInt rfl rfl cellsInt fitsInt
theorem cellsLVecS : (Try.prog).cellsOf 22 = 1 := by kernel_rfl
theorem fitsLVecS : Fits Try.prog 22 tVecs := fits_slice Try.underlying22 cellsLVec (by decide) fitsLVec
theorem cellsLVecSS : (Try.prog).cellsOf 69 = 1 := by kernel_rfl
theorem fitsLVecSS : Fits Try.prog 69 tVecSS := fits_slice Try.underlying69 cellsLVecS (by decide) fitsLVecS
theorem cellsLIntS : (Try.prog).cellsOf 37 = 1 := by kernel_rfl
theorem fitsLIntS : Fits Try.prog 37 tInts := fits_slice Try.underlying37 cellsInt (by decide) fitsInt
theorem cellsLIntSS : (Try.prog).cellsOf 136 = 1 := by kernel_rfl
theorem fitsLIntSS : Fits Try.prog 136 tIntSS := fits_slice Try.underlying136 cellsLIntS (by decide) fitsLIntS
theorem cellsLBigInt : (Try.prog).cellsOf 39 = 2 := by kernel_rfl
theorem fitsLBigInt : Fits Try.prog 39 tBig := fits_struct2 (S0 := tBool) (S1 := tInts) Try.underlying39 cellsLBigInt rfl cellsBool fitsBool rfl rfl cellsLIntS fitsLIntS
theorem cellsLRat : (Try.prog).cellsOf 41 = 3 := by kernel_rfl
theorem fitsLRat : Fits Try.prog 41 tRat := fits_struct2 (S0 := tBig) (S1 := tInts) Try.underlying41 cellsLRat rfl cellsLBigInt fitsLBigInt rfl rfl cellsLIntS fitsLIntS
theorem cellsLPoint : (Try.prog).cellsOf 92 = 6 := by kernel_rfl
theorem fitsLPoint : Fits Try.prog 92 tPoint := fits_struct2 (S0 := tRat) (S1 := tRat) Try.underlying92 cellsLPoint rfl cellsLRat fitsLRat rfl rfl cellsLRat fitsLRat
theorem cellsLBox : (Try.prog).cellsOf 118 = 4 := by kernel_rfl
theorem fitsLBox : Fits Try.prog 118 tBox := fits_struct2 (S0 := tVec) (S1 := tVec) Try.underlying118 cellsLBox rfl cellsLVec fitsLVec rfl rfl cellsLVec fitsLVec
theorem cellsLScene : (Try.prog).cellsOf 82 = 7 := by kernel_rfl
theorem fitsLScene : Fits Try.prog 82 tScene := fits_struct5 (S0 := tVec) (S1 := tVec) (S2 := tVecs) (S3 := tVecSS) (S4 := tVecs) Try.underlying82 cellsLScene rfl cellsLVec fitsLVec rfl rfl cellsLVec fitsLVec rfl rfl cellsLVecS fitsLVecS rfl rfl cellsLVecSS fitsLVecSS rfl rfl cellsLVecS fitsLVecS
theorem cellsLStep : (Try.prog).cellsOf 184 = 7 := by kernel_rfl
theorem fitsLStep : Fits Try.prog 184 tStep := fits_struct2 (S0 := tInt) (S1 := tPoint) Try.underlying184 cellsLStep rfl cellsInt fitsInt rfl rfl cellsLPoint fitsLPoint
theorem cellsLStepS : (Try.prog).cellsOf 95 = 1 := by kernel_rfl
theorem fitsLStepS : Fits Try.prog 95 tStepS := fits_slice Try.underlying95 cellsLStep (by decide) fitsLStep
theorem cellsLPlacement : (Try.prog).cellsOf 94 = 7 := by kernel_rfl
theorem fitsLPlacement : Fits Try.prog 94 tPlacement := fits_struct2 (S0 := tInt) (S1 := tPoint) Try.underlying94 cellsLPlacement rfl cellsInt fitsInt rfl rfl cellsLPoint fitsLPoint
theorem cellsLCell : (Try.prog).cellsOf 43 = 18 := by kernel_rfl
theorem fitsLCell : Fits Try.prog 43 tCell := fits_struct6 (S0 := tRat) (S1 := tRat) (S2 := tRat) (S3 := tRat) (S4 := tRat) (S5 := tRat) Try.underlying43 cellsLCell rfl cellsLRat fitsLRat rfl rfl cellsLRat fitsLRat rfl rfl cellsLRat fitsLRat rfl rfl cellsLRat fitsLRat rfl rfl cellsLRat fitsLRat rfl rfl cellsLRat fitsLRat
theorem cellsLCellS : (Try.prog).cellsOf 119 = 1 := by kernel_rfl
theorem fitsLCellS : Fits Try.prog 119 tCellS := fits_slice Try.underlying119 cellsLCell (by decide) fitsLCell
theorem cellsLWall : (Try.prog).cellsOf 241 = 9 := by kernel_rfl
theorem fitsLWall : Fits Try.prog 241 tWall := fits_struct3 (S0 := tRat) (S1 := tRat) (S2 := tRat) Try.underlying241 cellsLWall rfl cellsLRat fitsLRat rfl rfl cellsLRat fitsLRat rfl rfl cellsLRat fitsLRat
theorem cellsLWallS : (Try.prog).cellsOf 120 = 1 := by kernel_rfl
theorem fitsLWallS : Fits Try.prog 120 tWallS := fits_slice Try.underlying120 cellsLWall (by decide) fitsLWall
theorem cellsLDoor : (Try.prog).cellsOf 244 = 2 := by kernel_rfl
theorem fitsLDoor : Fits Try.prog 244 tDoor := fits_struct2 (S0 := tInt) (S1 := tInt) Try.underlying244 cellsLDoor rfl cellsInt fitsInt rfl rfl cellsInt fitsInt
theorem cellsLDoorS : (Try.prog).cellsOf 121 = 1 := by kernel_rfl
theorem fitsLDoorS : Fits Try.prog 121 tDoorS := fits_slice Try.underlying121 cellsLDoor (by decide) fitsLDoor
theorem cellsLSlice : (Try.prog).cellsOf 123 = 11 := by kernel_rfl
theorem fitsLSlice : Fits Try.prog 123 tSlc := fits_struct8 (S0 := tInt) (S1 := tBool) (S2 := tBox) (S3 := tVecSS) (S4 := tCellS) (S5 := tWallS) (S6 := tDoorS) (S7 := tInts) Try.underlying123 cellsLSlice rfl cellsInt fitsInt rfl rfl cellsBool fitsBool rfl rfl cellsLBox fitsLBox rfl rfl cellsLVecSS fitsLVecSS rfl rfl cellsLCellS fitsLCellS rfl rfl cellsLWallS fitsLWallS rfl rfl cellsLDoorS fitsLDoorS rfl rfl cellsLIntS fitsLIntS
theorem cellsLSliceS : (Try.prog).cellsOf 135 = 1 := by kernel_rfl
theorem fitsLSliceS : Fits Try.prog 135 tSlcS := fits_slice Try.underlying135 cellsLSlice (by decide) fitsLSlice
theorem cellsLRoad : (Try.prog).cellsOf 138 = 10 := by kernel_rfl
theorem fitsLRoad : Fits Try.prog 138 tRoad := fits_struct4 (S0 := tScene) (S1 := tSlcS) (S2 := tInts) (S3 := tIntSS) Try.underlying138 cellsLRoad rfl cellsLScene fitsLScene rfl rfl cellsLSliceS fitsLSliceS rfl rfl cellsLIntS fitsLIntS rfl rfl cellsLIntSS fitsLIntSS
end Go.Proofs.Ytejhibpaknjhnaa
