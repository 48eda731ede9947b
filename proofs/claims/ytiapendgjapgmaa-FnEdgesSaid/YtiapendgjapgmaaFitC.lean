/- A list of bytes reads as data. -/
import Derived.Test.YtiapendgjapgmaaRows
import Derived.Test.YtiapendgjapgmaaGFits
import Derived.Test.YtiapendgjapgmaaCur
namespace Go.Proofs.Ytiapendgjapgmaa
open Go.RowKit
theorem fits_u8 {P : Program} {t : TypeId} (ht : P.underlying t = some (.int .u8)) : Fits P t tU8 := by
  intro H enc W base sp held fuel cs x h
  obtain ⟨n, rfl, _, hw⟩ := DataW.trod_int ht h
  have hw2 : (Lit.int .u8 n).wf = true := hw
  simp only [Lit.wf, Bool.and_eq_true, decide_eq_true_eq] at hw2
  exact ⟨n, rfl, hw2.1, hw2.2⟩
theorem cellsU8 : (Try.prog).cellsOf 5 = 1 := by kernel_rfl
theorem fitsU8 : Fits Try.prog 5 tU8 := fits_u8 Try.underlying5
theorem fitsCode : Fits Try.prog 22 tCode := fits_slice Try.underlying22 cellsU8 (by decide) fitsU8
end Go.Proofs.Ytiapendgjapgmaa
