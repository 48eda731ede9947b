/- slices.SortFunc and slices.CompactFunc of no fractions. -/
import Derived.Test.YtnbefpfijaimjaaSrf
import Derived.Test.YtnbefpfijaimjaaCpf
namespace Go.Proofs.Ytnbefpfijaimjaa
open Go.RowKit
theorem bits0 (w : World) : Calls Try.prog 54 #[.int .u64 0] w fun e w' => e = .returned (.int .i64 0) ∧ w' = w :=
  Any.bits_Len (Go.Proofs.SlLaysF0.n15.bits (P := Try.prog) (ρ := laysSF_ren) { laysSF with }) (0 : Int) w (by omega) (by omega)
set_option maxHeartbeats 800000 in
theorem insertion_zero (a : Option Addr) (cap : Nat) (w : World) :
    Calls Try.prog 73 #[.slice a 0 cap, .int .i64 0, .int .i64 0, .func (.func 37) #[] #[]] w fun e w' => e = .returned (.tuple #[]) ∧ More w w' := by
  go_enter Try.func73, Try.ntmps73
  go_wp2_with fail
  go_loopw [8] (fun i wr => i = .int .i64 1 ∧ More w wr) (fun _ _ => 0)
  case atStart => exact ⟨rfl, mC⟩
  case round =>
    obtain ⟨rfl, hm⟩ := hrel
    go_wp2_with fail
    go_end0
    exact ⟨rfl, mC⟩
set_option maxHeartbeats 800000 in
theorem pdq_zero (a : Option Addr) (cap : Nat) (w : World) :
    Calls Try.prog 53 #[.slice a 0 cap, .int .i64 0, .int .i64 0, .int .i64 0, .func (.func 37) #[] #[]] w fun e w' => e = .returned (.tuple #[]) ∧ More w w' := by
  go_enter Try.func53, Try.ntmps53
  go_wp2_with fail
  go_loopw [1, 2] (fun i j wr => i = .int .i64 0 ∧ j = .int .i64 0 ∧ More w wr) (fun _ _ _ => 0)
  case atStart => exact ⟨rfl, rfl, mC⟩
  case round =>
    obtain ⟨rfl, rfl, hm⟩ := hrel
    go_wp2_with fail
    refine (insertion_zero a cap _).mono ?_
    rintro e w1 ⟨rfl, hb1⟩
    go_wp2_with fail
    refine bodyPost_ret (v := .tuple #[]) ?_ rfl ?_
    rotate_left
    · exact ⟨rfl, mC⟩
    · simp [results, Try.results53, go_sem]
set_option maxHeartbeats 800000 in
theorem sort_zero (a : Option Addr) (cap : Nat) (w : World) :
    Calls Try.prog 36 #[.slice a 0 cap, .func (.func 37) #[] #[]] w fun e w' => e = .returned (.tuple #[]) ∧ More w w' := by
  go_enter Try.func36, Try.ntmps36
  go_wp2_with (first | (go_at_call 54; refine (bits0 _).mono ?_; rintro e w1 ⟨rfl, rfl⟩) | (go_at_call 53; refine (pdq_zero a cap _).mono ?_; rintro e w2 ⟨rfl, hb2⟩))
  go_end0
  exact ⟨rfl, mC⟩
set_option maxHeartbeats 800000 in
theorem compact_zero (a : Option Addr) (cap : Nat) (w : World) :
    Calls Try.prog 38 #[.slice a 0 cap, .func (.func 39) #[] #[]] w fun e w' => e = .returned (.slice a 0 cap) ∧ More w w' := by
  go_enter Try.func38, Try.ntmps38
  go_wp2_with fail
  go_ret
  exact ⟨rfl, mC⟩
end Go.Proofs.Ytnbefpfijaimjaa
