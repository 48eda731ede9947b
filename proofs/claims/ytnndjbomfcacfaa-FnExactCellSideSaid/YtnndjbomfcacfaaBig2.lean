/- Whole numbers: comparing; the reference's making, sums. -/
import Derived.Test.YtnndjbomfcacfaaBig
namespace Go.Proofs.Ytnndjbomfcacfaa
open Go.RowKit
theorem sgn_cmp (s s' : Bool) (m m' : Nat) : cmpI (sgn s m) (sgn s' m') = if s then (if s' then cmpI (m' : Int) (m : Int) else if m = 0 ∧ m' = 0 then 0 else -1) else (if s' then (if m = 0 ∧ m' = 0 then 0 else 1) else cmpI (m : Int) (m' : Int)) := by
  unfold sgn cmpI
  cases s <;> cases s' <;> simp <;> (try split) <;> (try split) <;> omega
end Go.Proofs.Ytnndjbomfcacfaa
