/- szIntS: how much of the room a value of this kind takes. -/
import Derived.Test.YtkhcblheekfdmaaKin
import Derived.Test.YtkhcblheekfdmaaVecS
import Derived.Deep.RegionHeld3
namespace Go.Proofs.Ytkhcblheekfdmaa
open Go.RowKit
set_option maxHeartbeats 400000 in
theorem laws_szIntS (v : Value) (l : List Int) (left : Int) (w : World) (hv : tInts.at w [v] l) (h0 : 0 ≤ left) (h1 : left ≤ 1048576) :
    Calls Try.prog 100 #[v, .int .i64 left] w fun e w' => e = .returned (.int .i64 (szI (wIntS l) left)) ∧ More w w' := by
  unfold wIntS
  obtain ⟨ao, cap, rfl, hl⟩ := sl_len63 hv
  clear hv
  obtain ⟨n, hn⟩ : ∃ n, n = l.length := ⟨_, rfl⟩
  rw [← hn] at hl ⊢
  clear hn
  by_cases h : (n : Int) ≤ left
  · go_enter Try.func100, Try.ntmps100
    go_wp2
    go_ret
    exact ⟨ret_int (szI_pos h).symm, More.refl _⟩
  · go_enter Try.func100, Try.ntmps100
    go_wp2
    go_ret
    exact ⟨ret_int (szI_neg (by omega)).symm, More.refl _⟩
end Go.Proofs.Ytkhcblheekfdmaa
