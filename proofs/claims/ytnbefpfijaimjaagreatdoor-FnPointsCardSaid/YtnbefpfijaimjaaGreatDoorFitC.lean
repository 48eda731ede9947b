/- A list of bytes reads as data. -/
import Derived.Test.YtnbefpfijaimjaaGreatDoorRows
import Derived.Test.YtnbefpfijaimjaaGreatDoorGFits
import Derived.Test.YtnbefpfijaimjaaGreatDoorCur
namespace Go.Proofs.YtnbefpfijaimjaaGreatDoor
open Go.RowKit
theorem fits_u8 {P : Program} {t : TypeId} (ht : P.underlying t = some (.int .u8)) : Fits P t tU8 := by
  intro H enc W base sp held fuel cs x h
  obtain ⟨n, rfl, _, hw⟩ := DataW.trod_int ht h
  have hw2 : (Lit.int .u8 n).wf = true := hw
  simp only [Lit.wf, Bool.and_eq_true, decide_eq_true_eq] at hw2
  exact ⟨n, rfl, hw2.1, hw2.2⟩
theorem cellsU8 : (Tryz.prog).cellsOf 5 = 1 := by kernel_rfl
theorem fitsU8 : Fits Tryz.prog 5 tU8 := fits_u8 Tryz.underlying5
theorem fitsCode : Fits Tryz.prog 34 tCode := fits_slice Tryz.underlying34 cellsU8 (by decide) fitsU8
end Go.Proofs.YtnbefpfijaimjaaGreatDoor
