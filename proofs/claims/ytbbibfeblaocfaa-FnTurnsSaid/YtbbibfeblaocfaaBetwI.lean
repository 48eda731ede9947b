/- TurnsBetween: the program's. -/
import Derived.Test.YtbbibfeblaocfaaBetw
import Derived.Test.YtbbibfeblaocfaaClone
namespace Go.Proofs.Ytbbibfeblaocfaa
open Go.RowKit
theorem okc {l : List Int} (h : ∀ x ∈ l, x = 1 ∨ x = -1) : ∀ x ∈ l, fInt.ok x := fun x hx => show In64 x from In64.small (by rcases h x hx with rfl | rfl <;> omega)
theorem ln0 : ([] : List Int).length = 0 := rfl
theorem ln1 : ([1] : List Int).length = 1 := rfl
theorem ln2 : ([1, 1] : List Int).length = 2 := rfl
theorem ln3 : ([-1] : List Int).length = 1 := rfl
theorem lm0 : ([] : List Int).length ≤ 1048576 := by decide
theorem lm1 : ([1] : List Int).length ≤ 1048576 := by decide
theorem lm2 : ([1, 1] : List Int).length ≤ 1048576 := by decide
theorem lm3 : ([-1] : List Int).length ≤ 1048576 := by decide
theorem lit_at0 (w1 : World) : Hid (tInts.at (w1.alloc (.cells #[] 3)) [.slice (some ⟨w1.heap.size, 0, none⟩) 0 0] []) :=
  Lib.hid (Ty.fresh_at (lit_fresh (w := w1) fInt (e := 3) (C := #[]) (l := []) rfl rfl rfl (by decide) (by simp)))
theorem lit_at1 (w1 : World) : Hid (tInts.at ((w1.alloc (.cells #[] 3)).alloc (.cells #[.int .i64 1] 3)) [.slice (some ⟨w1.heap.size + 1, 0, none⟩) 1 1] [1]) :=
  Lib.hid (Ty.fresh_at (lit_fresh (w := w1.alloc (.cells #[] 3)) fInt (e := 3) (C := #[.int .i64 1]) (l := [1]) (by simp) rfl rfl (by decide) (okc (by simp))))
theorem lit_at2 (w1 : World) : Hid (tInts.at (((w1.alloc (.cells #[] 3)).alloc (.cells #[.int .i64 1] 3)).alloc (.cells #[.int .i64 1, .int .i64 1] 3)) [.slice (some ⟨w1.heap.size + 1 + 1, 0, none⟩) 2 2] [1, 1]) :=
  Lib.hid (Ty.fresh_at (lit_fresh (w := (w1.alloc (.cells #[] 3)).alloc (.cells #[.int .i64 1] 3)) fInt (e := 3) (C := #[.int .i64 1, .int .i64 1]) (l := [1, 1]) (by simp) rfl rfl (by decide) (okc (by simp))))
theorem lit_at3 (w1 : World) : Hid (tInts.at ((((w1.alloc (.cells #[] 3)).alloc (.cells #[.int .i64 1] 3)).alloc (.cells #[.int .i64 1, .int .i64 1] 3)).alloc (.cells #[.int .i64 (-1)] 3)) [.slice (some ⟨w1.heap.size + 1 + 1 + 1, 0, none⟩) 1 1] [-1]) :=
  Lib.hid (Ty.fresh_at (lit_fresh (w := ((w1.alloc (.cells #[] 3)).alloc (.cells #[.int .i64 1] 3)).alloc (.cells #[.int .i64 1, .int .i64 1] 3)) fInt (e := 3) (C := #[.int .i64 (-1)]) (l := [-1]) (by simp) rfl rfl (by decide) (okc (by simp))))
theorem tbF_len (a b : Int) : (tbF a b).length ≤ 1048576 := by
  unfold tbF tbL
  repeat' split
  all_goals simp
theorem impl_isHeading (g : Int) (w : World) : Calls Try.prog 59 #[.int .i64 g] w fun e w' => e = .returned (.bool (inR g 0 3)) ∧ More w w' := by
  go_enter Try.func59, Try.ntmps59
  go_wp2_with (go_at_call 63; refine (impl_within _ _ _ _).mono ?_; rintro e w1 ⟨rfl, hb1⟩)
  go_ret
  exact ⟨rfl, mC⟩
set_option maxHeartbeats 1600000 in
theorem impl_TurnsBetween (g h : Int) (w : World) : Calls Try.prog 11 #[.int .i64 g, .int .i64 h] w fun e w' => ∃ v', e = .returned v' ∧ More w w' ∧ tInts.fresh w.heap.size w' [v'] (tbF g h) := by
  rcases Bool.eq_false_or_eq_true (inR g 0 3) with a | a
  · rcases Bool.eq_false_or_eq_true (inR h 0 3) with b | b
    · obtain ⟨a0, a1⟩ := inR_iff.1 a
      obtain ⟨b0, b1⟩ := inR_iff.1 b
      have gg : g = 0 ∨ g = 1 ∨ g = 2 ∨ g = 3 := by omega
      have hh : h = 0 ∨ h = 1 ∨ h = 2 ∨ h = 3 := by omega
      rcases gg with rfl | rfl | rfl | rfl <;> rcases hh with rfl | rfl | rfl | rfl <;>
      · go_enter Try.func11, Try.ntmps11
        go_wp2_with (first | (go_at_call 59; refine (impl_isHeading _ _).mono ?_; rintro e w1 ⟨rfl, hb1⟩))
        have A0 := lit_at0 w1
        have A1 := lit_at1 w1
        have A2 := lit_at2 w1
        have A3 := lit_at3 w1
        first
          | (with_reducible refine (clone_int' w1.heap.size 0 0 0 [] _ ln0 (Ty.at_more A0.out mC) lm0).mono ?_)
          | (with_reducible refine (clone_int' (w1.heap.size + 1) 0 1 1 [1] _ ln1 (Ty.at_more A1.out mC) lm1).mono ?_)
          | (with_reducible refine (clone_int' (w1.heap.size + 1 + 1) 0 2 2 [1, 1] _ ln2 (Ty.at_more A2.out mC) lm2).mono ?_)
          | (with_reducible refine (clone_int' (w1.heap.size + 1 + 1 + 1) 0 1 1 [-1] _ ln3 (Ty.at_more A3.out mC) lm3).mono ?_)
        rintro e w2 ⟨v', rfl, hb2, F2⟩
        go_wp2_with fail
        go_ret
        exact ⟨_, rfl, mC, Ty.fresh_mono F2 (More.size mC)⟩
    · go_enter Try.func11, Try.ntmps11
      go_wp2_with (go_at_call 59; refine (impl_isHeading _ _).mono ?_; rintro e w1 ⟨rfl, hb1⟩)
      go_ret
      exact ⟨_, rfl, mC, by rw [tbF, a, b]; exact nil_fresh⟩
  · go_enter Try.func11, Try.ntmps11
    go_wp2_with (go_at_call 59; refine (impl_isHeading _ _).mono ?_; rintro e w1 ⟨rfl, hb1⟩)
    go_ret
    exact ⟨_, rfl, mC, by rw [tbF, a]; exact nil_fresh⟩
end Go.Proofs.Ytbbibfeblaocfaa
