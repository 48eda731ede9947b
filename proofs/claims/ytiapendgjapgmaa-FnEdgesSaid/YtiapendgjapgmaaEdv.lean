/- Valid edges. -/
import Derived.Test.YtiapendgjapgmaaGVec
import Derived.Test.YtiapendgjapgmaaGBase
namespace Go.Proofs.Ytiapendgjapgmaa
open Go.RowKit
def edgeOk (e : QE) : Bool := isV e.1 && isV e.2.1 && decide (e.1.1 < e.2.1.1)
set_option maxHeartbeats 800000 in
theorem impl_IsValidEdge (ax ay bx bY ar : Int) (lo : Bool) (w : World) (ia : In64 ax ∧ In64 ay) (ib : In64 bx ∧ In64 bY) : Calls Try.prog 11 #[.agg #[.int .i64 ax, .int .i64 ay, .int .i64 bx, .int .i64 bY, .int .i64 ar, .bool lo]] w fun e w' =>
    e = .returned (.bool (edgeOk ((ax, ay), (bx, bY), ar, lo))) ∧ More w w' := by
  have hok : Hid (∀ x ∈ [(ax, ay), (bx, bY)], fVec.ok x) := Lib.hid (by
    intro x hx
    simp only [List.mem_cons, List.not_mem_nil, or_false] at hx
    rcases hx with rfl | rfl
    · exact ia
    · exact ib)
  clear ia ib
  rcases Bool.eq_false_or_eq_true ([(ax, ay), (bx, bY)].all isV) with h | h
  · obtain ⟨ha, hb⟩ : isV (ax, ay) = true ∧ isV (bx, bY) = true := by simpa using h
    have H := Lib.hid h; have HA := Lib.hid ha; have HB := Lib.hid hb
    clear h ha hb
    by_cases h : ax < bx
    all_goals
      go_enter Try.func11, Try.ntmps11
      go_wp2_with fail
      refine (impl_areVecs _ [(ax, ay), (bx, bY)] _ (Ty.fresh_at (lit_fresh fVec (by simp) rfl rfl (by simp) hok.out)) (by simp)).mono ?_
      rintro e w1 ⟨rfl, hb1⟩
      rw [H.out]
      obtain ⟨hc1, hf1⟩ := bcell hb1
      go_wp2_with fail
      go_ret
      exact ⟨ret_bool (by simp [edgeOk, HA.out, HB.out] <;> omega), mC⟩
  · have H := Lib.hid h
    clear h
    go_enter Try.func11, Try.ntmps11
    go_wp2_with fail
    refine (impl_areVecs _ [(ax, ay), (bx, bY)] _ (Ty.fresh_at (lit_fresh fVec (by simp) rfl rfl (by simp) hok.out)) (by simp)).mono ?_
    rintro e w1 ⟨rfl, hb1⟩
    rw [H.out]
    go_wp2_with fail
    go_ret
    exact ⟨ret_bool (by
      have := H.out
      simp only [List.all_cons, List.all_nil, Bool.and_true] at this
      unfold edgeOk
      rw [this]
      rfl), mC⟩
theorem edge_in {w : World} {cs : List Value} {x : QE} (h : tEdge.at w cs x) : (In64 x.1.1 ∧ In64 x.1.2) ∧ (In64 x.2.1.1 ∧ In64 x.2.1.2) := by
  obtain ⟨h1, h2, h3, h4⟩ := flat_at fEdge h
  exact ⟨h2, h3⟩
end Go.Proofs.Ytiapendgjapgmaa
