/- Equality of slices: the reference's. -/
import Derived.Test.YtbbibfeblaocfaaEqSs
import Derived.Test.YtbbibfeblaocfaaThn
import Derived.Deep.RegionHeld3
import Derived.Deep.QuietTactic
import Derived.BigQuiet
import Derived.Laws.StructEq
namespace Go.Proofs.Ytbbibfeblaocfaa
open Go.RowKit
set_option maxRecDepth 8000 in
set_option maxHeartbeats 12800000 in
theorem spec_SameSlice (cs ds : List Value) (x y : QSlice) (w : World) (hv : tSlc.at w cs x) (hv' : tSlc.at w ds y) (hw : wSlice x ≤ 1048576) (hw' : wSlice y ≤ 1048576) :
    Calls Try.prog 30 #[.agg cs.toArray, .agg ds.toArray] w fun e w' => e = .returned (.bool (decide (x = y))) ∧ More w w' := by
  obtain ⟨xk0, xd0, rfl, xf0, xe0⟩ := at_prod hv
  obtain ⟨xk1, xd1, rfl, xf1, xe1⟩ := at_prod xe0
  obtain ⟨xk2, xd2, rfl, xf2, xe2⟩ := at_prod xe1
  obtain ⟨xk3, xd3, rfl, xf3, xe3⟩ := at_prod xe2
  obtain ⟨xk4, xd4, rfl, xf4, xe4⟩ := at_prod xe3
  obtain ⟨xk5, xd5, rfl, xf5, xe5⟩ := at_prod xe4
  obtain ⟨xk6, xd6, rfl, xf6, xe6⟩ := at_prod xe5
  have xf7 := xe6
  obtain rfl := sh_int xf0
  obtain rfl := sh_bool xf1
  obtain rfl := sh_Box xf2
  obtain ⟨xa3, xn3, xc3, rfl⟩ := sh_slice xf3
  obtain ⟨qa, qc, qe⟩ := sl_len (show tVecSS.at w [.slice xa3 xn3 xc3] x.2.2.2.1 from xf3)
  cases qe
  have FXA : Hid (tVecSS.at w [.slice xa3 x.2.2.2.1.length xc3] x.2.2.2.1) := Lib.hid xf3
  have WXA : Hid (wVecSS x.2.2.2.1 ≤ 1048576) := Lib.hid (by have h := hw; unfold wSlice at h; omega)
  have hlXA : x.2.2.2.1.length ≤ 1048576 := by have h := WXA.out; unfold wVecSS at h; omega
  obtain ⟨xa4, xn4, xc4, rfl⟩ := sh_slice xf4
  obtain ⟨qa, qc, qe⟩ := sl_len (show tCellS.at w [.slice xa4 xn4 xc4] x.2.2.2.2.1 from xf4)
  cases qe
  have FXC : Hid (tCellS.at w [.slice xa4 x.2.2.2.2.1.length xc4] x.2.2.2.2.1) := Lib.hid xf4
  have WXC : Hid (wCellS x.2.2.2.2.1 ≤ 1048576) := Lib.hid (by have h := hw; unfold wSlice at h; omega)
  have hlXC : x.2.2.2.2.1.length ≤ 1048576 := by have h := WXC.out; unfold wCellS at h; omega
  obtain ⟨xa5, xn5, xc5, rfl⟩ := sh_slice xf5
  obtain ⟨qa, qc, qe⟩ := sl_len (show tWallS.at w [.slice xa5 xn5 xc5] x.2.2.2.2.2.1 from xf5)
  cases qe
  have FXW : Hid (tWallS.at w [.slice xa5 x.2.2.2.2.2.1.length xc5] x.2.2.2.2.2.1) := Lib.hid xf5
  have WXW : Hid (wWallS x.2.2.2.2.2.1 ≤ 1048576) := Lib.hid (by have h := hw; unfold wSlice at h; omega)
  have hlXW : x.2.2.2.2.2.1.length ≤ 1048576 := by have h := WXW.out; unfold wWallS at h; omega
  obtain ⟨xa6, xn6, xc6, rfl⟩ := sh_slice xf6
  obtain ⟨qa, qc, qe⟩ := sl_len (show tDoorS.at w [.slice xa6 xn6 xc6] x.2.2.2.2.2.2.1 from xf6)
  cases qe
  have FXD : Hid (tDoorS.at w [.slice xa6 x.2.2.2.2.2.2.1.length xc6] x.2.2.2.2.2.2.1) := Lib.hid xf6
  have WXD : Hid (wDoorS x.2.2.2.2.2.2.1 ≤ 1048576) := Lib.hid (by have h := hw; unfold wSlice at h; omega)
  have hlXD : x.2.2.2.2.2.2.1.length ≤ 1048576 := by have h := WXD.out; unfold wDoorS at h; omega
  obtain ⟨xa7, xn7, xc7, rfl⟩ := sh_slice xf7
  obtain ⟨qa, qc, qe⟩ := sl_len (show tInts.at w [.slice xa7 xn7 xc7] x.2.2.2.2.2.2.2 from xf7)
  cases qe
  have FXI : Hid (tInts.at w [.slice xa7 x.2.2.2.2.2.2.2.length xc7] x.2.2.2.2.2.2.2) := Lib.hid xf7
  have WXI : Hid (wIntS x.2.2.2.2.2.2.2 ≤ 1048576) := Lib.hid (by have h := hw; unfold wSlice at h; omega)
  have hlXI : x.2.2.2.2.2.2.2.length ≤ 1048576 := by have h := WXI.out; unfold wIntS at h; omega
  clear xf0 xf1 xf2 xf3 xf4 xf5 xf6 xf7 xe0 xe1 xe2 xe3 xe4 xe5 xe6
  obtain ⟨yk0, yd0, rfl, yf0, ye0⟩ := at_prod hv'
  obtain ⟨yk1, yd1, rfl, yf1, ye1⟩ := at_prod ye0
  obtain ⟨yk2, yd2, rfl, yf2, ye2⟩ := at_prod ye1
  obtain ⟨yk3, yd3, rfl, yf3, ye3⟩ := at_prod ye2
  obtain ⟨yk4, yd4, rfl, yf4, ye4⟩ := at_prod ye3
  obtain ⟨yk5, yd5, rfl, yf5, ye5⟩ := at_prod ye4
  obtain ⟨yk6, yd6, rfl, yf6, ye6⟩ := at_prod ye5
  have yf7 := ye6
  obtain rfl := sh_int yf0
  obtain rfl := sh_bool yf1
  obtain rfl := sh_Box yf2
  obtain ⟨ya3, yn3, yc3, rfl⟩ := sh_slice yf3
  obtain ⟨qa, qc, qe⟩ := sl_len (show tVecSS.at w [.slice ya3 yn3 yc3] y.2.2.2.1 from yf3)
  cases qe
  have FYA : Hid (tVecSS.at w [.slice ya3 y.2.2.2.1.length yc3] y.2.2.2.1) := Lib.hid yf3
  have WYA : Hid (wVecSS y.2.2.2.1 ≤ 1048576) := Lib.hid (by have h := hw'; unfold wSlice at h; omega)
  have hlYA : y.2.2.2.1.length ≤ 1048576 := by have h := WYA.out; unfold wVecSS at h; omega
  obtain ⟨ya4, yn4, yc4, rfl⟩ := sh_slice yf4
  obtain ⟨qa, qc, qe⟩ := sl_len (show tCellS.at w [.slice ya4 yn4 yc4] y.2.2.2.2.1 from yf4)
  cases qe
  have FYC : Hid (tCellS.at w [.slice ya4 y.2.2.2.2.1.length yc4] y.2.2.2.2.1) := Lib.hid yf4
  have WYC : Hid (wCellS y.2.2.2.2.1 ≤ 1048576) := Lib.hid (by have h := hw'; unfold wSlice at h; omega)
  have hlYC : y.2.2.2.2.1.length ≤ 1048576 := by have h := WYC.out; unfold wCellS at h; omega
  obtain ⟨ya5, yn5, yc5, rfl⟩ := sh_slice yf5
  obtain ⟨qa, qc, qe⟩ := sl_len (show tWallS.at w [.slice ya5 yn5 yc5] y.2.2.2.2.2.1 from yf5)
  cases qe
  have FYW : Hid (tWallS.at w [.slice ya5 y.2.2.2.2.2.1.length yc5] y.2.2.2.2.2.1) := Lib.hid yf5
  have WYW : Hid (wWallS y.2.2.2.2.2.1 ≤ 1048576) := Lib.hid (by have h := hw'; unfold wSlice at h; omega)
  have hlYW : y.2.2.2.2.2.1.length ≤ 1048576 := by have h := WYW.out; unfold wWallS at h; omega
  obtain ⟨ya6, yn6, yc6, rfl⟩ := sh_slice yf6
  obtain ⟨qa, qc, qe⟩ := sl_len (show tDoorS.at w [.slice ya6 yn6 yc6] y.2.2.2.2.2.2.1 from yf6)
  cases qe
  have FYD : Hid (tDoorS.at w [.slice ya6 y.2.2.2.2.2.2.1.length yc6] y.2.2.2.2.2.2.1) := Lib.hid yf6
  have WYD : Hid (wDoorS y.2.2.2.2.2.2.1 ≤ 1048576) := Lib.hid (by have h := hw'; unfold wSlice at h; omega)
  have hlYD : y.2.2.2.2.2.2.1.length ≤ 1048576 := by have h := WYD.out; unfold wDoorS at h; omega
  obtain ⟨ya7, yn7, yc7, rfl⟩ := sh_slice yf7
  obtain ⟨qa, qc, qe⟩ := sl_len (show tInts.at w [.slice ya7 yn7 yc7] y.2.2.2.2.2.2.2 from yf7)
  cases qe
  have FYI : Hid (tInts.at w [.slice ya7 y.2.2.2.2.2.2.2.length yc7] y.2.2.2.2.2.2.2) := Lib.hid yf7
  have WYI : Hid (wIntS y.2.2.2.2.2.2.2 ≤ 1048576) := Lib.hid (by have h := hw'; unfold wSlice at h; omega)
  have hlYI : y.2.2.2.2.2.2.2.length ≤ 1048576 := by have h := WYI.out; unfold wIntS at h; omega
  clear yf0 yf1 yf2 yf3 yf4 yf5 yf6 yf7 ye0 ye1 ye2 ye3 ye4 ye5 ye6
  clear hv hv' hw hw'
  show Calls Try.prog 30 #[.agg #[.int .i64 x.1, .bool x.2.1, .int .i64 x.2.2.1.1.1, .int .i64 x.2.2.1.1.2, .int .i64 x.2.2.1.2.1, .int .i64 x.2.2.1.2.2, .slice xa3 x.2.2.2.1.length xc3, .slice xa4 x.2.2.2.2.1.length xc4, .slice xa5 x.2.2.2.2.2.1.length xc5, .slice xa6 x.2.2.2.2.2.2.1.length xc6, .slice xa7 x.2.2.2.2.2.2.2.length xc7], .agg #[.int .i64 y.1, .bool y.2.1, .int .i64 y.2.2.1.1.1, .int .i64 y.2.2.1.1.2, .int .i64 y.2.2.1.2.1, .int .i64 y.2.2.1.2.2, .slice ya3 y.2.2.2.1.length yc3, .slice ya4 y.2.2.2.2.1.length yc4, .slice ya5 y.2.2.2.2.2.1.length yc5, .slice ya6 y.2.2.2.2.2.2.1.length yc6, .slice ya7 y.2.2.2.2.2.2.2.length yc7]] w _
  rcases Bool.eq_false_or_eq_true (x.1 == y.1) with a0 | a0
  rotate_left
  · have A0 := Lib.hid a0
    have HX : More ((w.alloc (.cells #[.int .i64 x.1, .bool x.2.1, .int .i64 x.2.2.1.1.1, .int .i64 x.2.2.1.1.2, .int .i64 x.2.2.1.2.1, .int .i64 x.2.2.1.2.2, .slice xa3 x.2.2.2.1.length xc3, .slice xa4 x.2.2.2.2.1.length xc4, .slice xa5 x.2.2.2.2.2.1.length xc5, .slice xa6 x.2.2.2.2.2.2.1.length xc6, .slice xa7 x.2.2.2.2.2.2.2.length xc7] 69)).alloc (.cells #[.int .i64 y.1, .bool y.2.1, .int .i64 y.2.2.1.1.1, .int .i64 y.2.2.1.1.2, .int .i64 y.2.2.1.2.1, .int .i64 y.2.2.1.2.2, .slice ya3 y.2.2.2.1.length yc3, .slice ya4 y.2.2.2.2.1.length yc4, .slice ya5 y.2.2.2.2.2.1.length yc5, .slice ya6 y.2.2.2.2.2.2.1.length yc6, .slice ya7 y.2.2.2.2.2.2.2.length yc7] 69)) ((w.alloc (.cells #[.int .i64 x.1, .bool x.2.1, .int .i64 x.2.2.1.1.1, .int .i64 x.2.2.1.1.2, .int .i64 x.2.2.1.2.1, .int .i64 x.2.2.1.2.2, .slice xa3 x.2.2.2.1.length xc3, .slice xa4 x.2.2.2.2.1.length xc4, .slice xa5 x.2.2.2.2.2.1.length xc5, .slice xa6 x.2.2.2.2.2.2.1.length xc6, .slice xa7 x.2.2.2.2.2.2.2.length xc7] 69)).alloc (.cells #[.int .i64 y.1, .bool y.2.1, .int .i64 y.2.2.1.1.1, .int .i64 y.2.2.1.1.2, .int .i64 y.2.2.1.2.1, .int .i64 y.2.2.1.2.2, .slice ya3 y.2.2.2.1.length yc3, .slice ya4 y.2.2.2.2.1.length yc4, .slice ya5 y.2.2.2.2.2.1.length yc5, .slice ya6 y.2.2.2.2.2.2.1.length yc6, .slice ya7 y.2.2.2.2.2.2.2.length yc7] 69)) := More.refl _
    have HB : ∀ w', More ((w.alloc (.cells #[.int .i64 x.1, .bool x.2.1, .int .i64 x.2.2.1.1.1, .int .i64 x.2.2.1.1.2, .int .i64 x.2.2.1.2.1, .int .i64 x.2.2.1.2.2, .slice xa3 x.2.2.2.1.length xc3, .slice xa4 x.2.2.2.2.1.length xc4, .slice xa5 x.2.2.2.2.2.1.length xc5, .slice xa6 x.2.2.2.2.2.2.1.length xc6, .slice xa7 x.2.2.2.2.2.2.2.length xc7] 69)).alloc (.cells #[.int .i64 y.1, .bool y.2.1, .int .i64 y.2.2.1.1.1, .int .i64 y.2.2.1.1.2, .int .i64 y.2.2.1.2.1, .int .i64 y.2.2.1.2.2, .slice ya3 y.2.2.2.1.length yc3, .slice ya4 y.2.2.2.2.1.length yc4, .slice ya5 y.2.2.2.2.2.1.length yc5, .slice ya6 y.2.2.2.2.2.2.1.length yc6, .slice ya7 y.2.2.2.2.2.2.2.length yc7] 69)) w' → w'.cell? ⟨w.heap.size, 0, none⟩ = some (.int .i64 x.1) ∧ w'.cell? ⟨w.heap.size, 1, none⟩ = some (.bool x.2.1) ∧ w'.cell? ⟨w.heap.size, 2, none⟩ = some (.int .i64 x.2.2.1.1.1) ∧ w'.cell? ⟨w.heap.size, 3, none⟩ = some (.int .i64 x.2.2.1.1.2) ∧ w'.cell? ⟨w.heap.size, 4, none⟩ = some (.int .i64 x.2.2.1.2.1) ∧ w'.cell? ⟨w.heap.size, 5, none⟩ = some (.int .i64 x.2.2.1.2.2) ∧ w'.cell? ⟨w.heap.size, 6, none⟩ = some (.slice xa3 x.2.2.2.1.length xc3) ∧ w'.cell? ⟨w.heap.size, 7, none⟩ = some (.slice xa4 x.2.2.2.2.1.length xc4) ∧ w'.cell? ⟨w.heap.size, 8, none⟩ = some (.slice xa5 x.2.2.2.2.2.1.length xc5) ∧ w'.cell? ⟨w.heap.size, 9, none⟩ = some (.slice xa6 x.2.2.2.2.2.2.1.length xc6) ∧ w'.cell? ⟨w.heap.size, 10, none⟩ = some (.slice xa7 x.2.2.2.2.2.2.2.length xc7) ∧ (∀ j, w'.frozen? ⟨w.heap.size, j, none⟩ = false) ∧ w'.cell? ⟨w.heap.size + 1, 0, none⟩ = some (.int .i64 y.1) ∧ w'.cell? ⟨w.heap.size + 1, 1, none⟩ = some (.bool y.2.1) ∧ w'.cell? ⟨w.heap.size + 1, 2, none⟩ = some (.int .i64 y.2.2.1.1.1) ∧ w'.cell? ⟨w.heap.size + 1, 3, none⟩ = some (.int .i64 y.2.2.1.1.2) ∧ w'.cell? ⟨w.heap.size + 1, 4, none⟩ = some (.int .i64 y.2.2.1.2.1) ∧ w'.cell? ⟨w.heap.size + 1, 5, none⟩ = some (.int .i64 y.2.2.1.2.2) ∧ w'.cell? ⟨w.heap.size + 1, 6, none⟩ = some (.slice ya3 y.2.2.2.1.length yc3) ∧ w'.cell? ⟨w.heap.size + 1, 7, none⟩ = some (.slice ya4 y.2.2.2.2.1.length yc4) ∧ w'.cell? ⟨w.heap.size + 1, 8, none⟩ = some (.slice ya5 y.2.2.2.2.2.1.length yc5) ∧ w'.cell? ⟨w.heap.size + 1, 9, none⟩ = some (.slice ya6 y.2.2.2.2.2.2.1.length yc6) ∧ w'.cell? ⟨w.heap.size + 1, 10, none⟩ = some (.slice ya7 y.2.2.2.2.2.2.2.length yc7) ∧ (∀ j, w'.frozen? ⟨w.heap.size + 1, j, none⟩ = false) := fun w' h => ⟨box_new (by simp) (More.un h) 0, box_new (by simp) (More.un h) 1, box_new (by simp) (More.un h) 2, box_new (by simp) (More.un h) 3, box_new (by simp) (More.un h) 4, box_new (by simp) (More.un h) 5, box_new (by simp) (More.un h) 6, box_new (by simp) (More.un h) 7, box_new (by simp) (More.un h) 8, box_new (by simp) (More.un h) 9, box_new (by simp) (More.un h) 10, fun j => box_free (by simp) (More.un h) j, box_new (by simp) h 0, box_new (by simp) h 1, box_new (by simp) h 2, box_new (by simp) h 3, box_new (by simp) h 4, box_new (by simp) h 5, box_new (by simp) h 6, box_new (by simp) h 7, box_new (by simp) h 8, box_new (by simp) h 9, box_new (by simp) h 10, fun j => box_free (by simp) h j⟩
    go_enter Try.func30, Try.ntmps30
    go_wp2_with fail
    all_goals
      go_ret
      exact ⟨ret_bool (decide_eq_false (fun e => by have h := A0.out; rw [e] at h; simp at h)).symm, mC⟩
  have A0 := Lib.hid a0
  rcases Bool.eq_false_or_eq_true (x.2.1 == y.2.1) with a1 | a1
  rotate_left
  · have A1 := Lib.hid a1
    have HX : More ((w.alloc (.cells #[.int .i64 x.1, .bool x.2.1, .int .i64 x.2.2.1.1.1, .int .i64 x.2.2.1.1.2, .int .i64 x.2.2.1.2.1, .int .i64 x.2.2.1.2.2, .slice xa3 x.2.2.2.1.length xc3, .slice xa4 x.2.2.2.2.1.length xc4, .slice xa5 x.2.2.2.2.2.1.length xc5, .slice xa6 x.2.2.2.2.2.2.1.length xc6, .slice xa7 x.2.2.2.2.2.2.2.length xc7] 69)).alloc (.cells #[.int .i64 y.1, .bool y.2.1, .int .i64 y.2.2.1.1.1, .int .i64 y.2.2.1.1.2, .int .i64 y.2.2.1.2.1, .int .i64 y.2.2.1.2.2, .slice ya3 y.2.2.2.1.length yc3, .slice ya4 y.2.2.2.2.1.length yc4, .slice ya5 y.2.2.2.2.2.1.length yc5, .slice ya6 y.2.2.2.2.2.2.1.length yc6, .slice ya7 y.2.2.2.2.2.2.2.length yc7] 69)) ((w.alloc (.cells #[.int .i64 x.1, .bool x.2.1, .int .i64 x.2.2.1.1.1, .int .i64 x.2.2.1.1.2, .int .i64 x.2.2.1.2.1, .int .i64 x.2.2.1.2.2, .slice xa3 x.2.2.2.1.length xc3, .slice xa4 x.2.2.2.2.1.length xc4, .slice xa5 x.2.2.2.2.2.1.length xc5, .slice xa6 x.2.2.2.2.2.2.1.length xc6, .slice xa7 x.2.2.2.2.2.2.2.length xc7] 69)).alloc (.cells #[.int .i64 y.1, .bool y.2.1, .int .i64 y.2.2.1.1.1, .int .i64 y.2.2.1.1.2, .int .i64 y.2.2.1.2.1, .int .i64 y.2.2.1.2.2, .slice ya3 y.2.2.2.1.length yc3, .slice ya4 y.2.2.2.2.1.length yc4, .slice ya5 y.2.2.2.2.2.1.length yc5, .slice ya6 y.2.2.2.2.2.2.1.length yc6, .slice ya7 y.2.2.2.2.2.2.2.length yc7] 69)) := More.refl _
    have HB : ∀ w', More ((w.alloc (.cells #[.int .i64 x.1, .bool x.2.1, .int .i64 x.2.2.1.1.1, .int .i64 x.2.2.1.1.2, .int .i64 x.2.2.1.2.1, .int .i64 x.2.2.1.2.2, .slice xa3 x.2.2.2.1.length xc3, .slice xa4 x.2.2.2.2.1.length xc4, .slice xa5 x.2.2.2.2.2.1.length xc5, .slice xa6 x.2.2.2.2.2.2.1.length xc6, .slice xa7 x.2.2.2.2.2.2.2.length xc7] 69)).alloc (.cells #[.int .i64 y.1, .bool y.2.1, .int .i64 y.2.2.1.1.1, .int .i64 y.2.2.1.1.2, .int .i64 y.2.2.1.2.1, .int .i64 y.2.2.1.2.2, .slice ya3 y.2.2.2.1.length yc3, .slice ya4 y.2.2.2.2.1.length yc4, .slice ya5 y.2.2.2.2.2.1.length yc5, .slice ya6 y.2.2.2.2.2.2.1.length yc6, .slice ya7 y.2.2.2.2.2.2.2.length yc7] 69)) w' → w'.cell? ⟨w.heap.size, 0, none⟩ = some (.int .i64 x.1) ∧ w'.cell? ⟨w.heap.size, 1, none⟩ = some (.bool x.2.1) ∧ w'.cell? ⟨w.heap.size, 2, none⟩ = some (.int .i64 x.2.2.1.1.1) ∧ w'.cell? ⟨w.heap.size, 3, none⟩ = some (.int .i64 x.2.2.1.1.2) ∧ w'.cell? ⟨w.heap.size, 4, none⟩ = some (.int .i64 x.2.2.1.2.1) ∧ w'.cell? ⟨w.heap.size, 5, none⟩ = some (.int .i64 x.2.2.1.2.2) ∧ w'.cell? ⟨w.heap.size, 6, none⟩ = some (.slice xa3 x.2.2.2.1.length xc3) ∧ w'.cell? ⟨w.heap.size, 7, none⟩ = some (.slice xa4 x.2.2.2.2.1.length xc4) ∧ w'.cell? ⟨w.heap.size, 8, none⟩ = some (.slice xa5 x.2.2.2.2.2.1.length xc5) ∧ w'.cell? ⟨w.heap.size, 9, none⟩ = some (.slice xa6 x.2.2.2.2.2.2.1.length xc6) ∧ w'.cell? ⟨w.heap.size, 10, none⟩ = some (.slice xa7 x.2.2.2.2.2.2.2.length xc7) ∧ (∀ j, w'.frozen? ⟨w.heap.size, j, none⟩ = false) ∧ w'.cell? ⟨w.heap.size + 1, 0, none⟩ = some (.int .i64 y.1) ∧ w'.cell? ⟨w.heap.size + 1, 1, none⟩ = some (.bool y.2.1) ∧ w'.cell? ⟨w.heap.size + 1, 2, none⟩ = some (.int .i64 y.2.2.1.1.1) ∧ w'.cell? ⟨w.heap.size + 1, 3, none⟩ = some (.int .i64 y.2.2.1.1.2) ∧ w'.cell? ⟨w.heap.size + 1, 4, none⟩ = some (.int .i64 y.2.2.1.2.1) ∧ w'.cell? ⟨w.heap.size + 1, 5, none⟩ = some (.int .i64 y.2.2.1.2.2) ∧ w'.cell? ⟨w.heap.size + 1, 6, none⟩ = some (.slice ya3 y.2.2.2.1.length yc3) ∧ w'.cell? ⟨w.heap.size + 1, 7, none⟩ = some (.slice ya4 y.2.2.2.2.1.length yc4) ∧ w'.cell? ⟨w.heap.size + 1, 8, none⟩ = some (.slice ya5 y.2.2.2.2.2.1.length yc5) ∧ w'.cell? ⟨w.heap.size + 1, 9, none⟩ = some (.slice ya6 y.2.2.2.2.2.2.1.length yc6) ∧ w'.cell? ⟨w.heap.size + 1, 10, none⟩ = some (.slice ya7 y.2.2.2.2.2.2.2.length yc7) ∧ (∀ j, w'.frozen? ⟨w.heap.size + 1, j, none⟩ = false) := fun w' h => ⟨box_new (by simp) (More.un h) 0, box_new (by simp) (More.un h) 1, box_new (by simp) (More.un h) 2, box_new (by simp) (More.un h) 3, box_new (by simp) (More.un h) 4, box_new (by simp) (More.un h) 5, box_new (by simp) (More.un h) 6, box_new (by simp) (More.un h) 7, box_new (by simp) (More.un h) 8, box_new (by simp) (More.un h) 9, box_new (by simp) (More.un h) 10, fun j => box_free (by simp) (More.un h) j, box_new (by simp) h 0, box_new (by simp) h 1, box_new (by simp) h 2, box_new (by simp) h 3, box_new (by simp) h 4, box_new (by simp) h 5, box_new (by simp) h 6, box_new (by simp) h 7, box_new (by simp) h 8, box_new (by simp) h 9, box_new (by simp) h 10, fun j => box_free (by simp) h j⟩
    go_enter Try.func30, Try.ntmps30
    go_wp2_with fail
    all_goals
      go_ret
      exact ⟨ret_bool (decide_eq_false (fun e => by have h := A1.out; rw [e] at h; simp at h)).symm, mC⟩
  have A1 := Lib.hid a1
  rcases Bool.eq_false_or_eq_true (x.2.2.1.1.1 == y.2.2.1.1.1) with a2 | a2
  rotate_left
  · have A2 := Lib.hid a2
    have HX : More ((w.alloc (.cells #[.int .i64 x.1, .bool x.2.1, .int .i64 x.2.2.1.1.1, .int .i64 x.2.2.1.1.2, .int .i64 x.2.2.1.2.1, .int .i64 x.2.2.1.2.2, .slice xa3 x.2.2.2.1.length xc3, .slice xa4 x.2.2.2.2.1.length xc4, .slice xa5 x.2.2.2.2.2.1.length xc5, .slice xa6 x.2.2.2.2.2.2.1.length xc6, .slice xa7 x.2.2.2.2.2.2.2.length xc7] 69)).alloc (.cells #[.int .i64 y.1, .bool y.2.1, .int .i64 y.2.2.1.1.1, .int .i64 y.2.2.1.1.2, .int .i64 y.2.2.1.2.1, .int .i64 y.2.2.1.2.2, .slice ya3 y.2.2.2.1.length yc3, .slice ya4 y.2.2.2.2.1.length yc4, .slice ya5 y.2.2.2.2.2.1.length yc5, .slice ya6 y.2.2.2.2.2.2.1.length yc6, .slice ya7 y.2.2.2.2.2.2.2.length yc7] 69)) ((w.alloc (.cells #[.int .i64 x.1, .bool x.2.1, .int .i64 x.2.2.1.1.1, .int .i64 x.2.2.1.1.2, .int .i64 x.2.2.1.2.1, .int .i64 x.2.2.1.2.2, .slice xa3 x.2.2.2.1.length xc3, .slice xa4 x.2.2.2.2.1.length xc4, .slice xa5 x.2.2.2.2.2.1.length xc5, .slice xa6 x.2.2.2.2.2.2.1.length xc6, .slice xa7 x.2.2.2.2.2.2.2.length xc7] 69)).alloc (.cells #[.int .i64 y.1, .bool y.2.1, .int .i64 y.2.2.1.1.1, .int .i64 y.2.2.1.1.2, .int .i64 y.2.2.1.2.1, .int .i64 y.2.2.1.2.2, .slice ya3 y.2.2.2.1.length yc3, .slice ya4 y.2.2.2.2.1.length yc4, .slice ya5 y.2.2.2.2.2.1.length yc5, .slice ya6 y.2.2.2.2.2.2.1.length yc6, .slice ya7 y.2.2.2.2.2.2.2.length yc7] 69)) := More.refl _
    have HB : ∀ w', More ((w.alloc (.cells #[.int .i64 x.1, .bool x.2.1, .int .i64 x.2.2.1.1.1, .int .i64 x.2.2.1.1.2, .int .i64 x.2.2.1.2.1, .int .i64 x.2.2.1.2.2, .slice xa3 x.2.2.2.1.length xc3, .slice xa4 x.2.2.2.2.1.length xc4, .slice xa5 x.2.2.2.2.2.1.length xc5, .slice xa6 x.2.2.2.2.2.2.1.length xc6, .slice xa7 x.2.2.2.2.2.2.2.length xc7] 69)).alloc (.cells #[.int .i64 y.1, .bool y.2.1, .int .i64 y.2.2.1.1.1, .int .i64 y.2.2.1.1.2, .int .i64 y.2.2.1.2.1, .int .i64 y.2.2.1.2.2, .slice ya3 y.2.2.2.1.length yc3, .slice ya4 y.2.2.2.2.1.length yc4, .slice ya5 y.2.2.2.2.2.1.length yc5, .slice ya6 y.2.2.2.2.2.2.1.length yc6, .slice ya7 y.2.2.2.2.2.2.2.length yc7] 69)) w' → w'.cell? ⟨w.heap.size, 0, none⟩ = some (.int .i64 x.1) ∧ w'.cell? ⟨w.heap.size, 1, none⟩ = some (.bool x.2.1) ∧ w'.cell? ⟨w.heap.size, 2, none⟩ = some (.int .i64 x.2.2.1.1.1) ∧ w'.cell? ⟨w.heap.size, 3, none⟩ = some (.int .i64 x.2.2.1.1.2) ∧ w'.cell? ⟨w.heap.size, 4, none⟩ = some (.int .i64 x.2.2.1.2.1) ∧ w'.cell? ⟨w.heap.size, 5, none⟩ = some (.int .i64 x.2.2.1.2.2) ∧ w'.cell? ⟨w.heap.size, 6, none⟩ = some (.slice xa3 x.2.2.2.1.length xc3) ∧ w'.cell? ⟨w.heap.size, 7, none⟩ = some (.slice xa4 x.2.2.2.2.1.length xc4) ∧ w'.cell? ⟨w.heap.size, 8, none⟩ = some (.slice xa5 x.2.2.2.2.2.1.length xc5) ∧ w'.cell? ⟨w.heap.size, 9, none⟩ = some (.slice xa6 x.2.2.2.2.2.2.1.length xc6) ∧ w'.cell? ⟨w.heap.size, 10, none⟩ = some (.slice xa7 x.2.2.2.2.2.2.2.length xc7) ∧ (∀ j, w'.frozen? ⟨w.heap.size, j, none⟩ = false) ∧ w'.cell? ⟨w.heap.size + 1, 0, none⟩ = some (.int .i64 y.1) ∧ w'.cell? ⟨w.heap.size + 1, 1, none⟩ = some (.bool y.2.1) ∧ w'.cell? ⟨w.heap.size + 1, 2, none⟩ = some (.int .i64 y.2.2.1.1.1) ∧ w'.cell? ⟨w.heap.size + 1, 3, none⟩ = some (.int .i64 y.2.2.1.1.2) ∧ w'.cell? ⟨w.heap.size + 1, 4, none⟩ = some (.int .i64 y.2.2.1.2.1) ∧ w'.cell? ⟨w.heap.size + 1, 5, none⟩ = some (.int .i64 y.2.2.1.2.2) ∧ w'.cell? ⟨w.heap.size + 1, 6, none⟩ = some (.slice ya3 y.2.2.2.1.length yc3) ∧ w'.cell? ⟨w.heap.size + 1, 7, none⟩ = some (.slice ya4 y.2.2.2.2.1.length yc4) ∧ w'.cell? ⟨w.heap.size + 1, 8, none⟩ = some (.slice ya5 y.2.2.2.2.2.1.length yc5) ∧ w'.cell? ⟨w.heap.size + 1, 9, none⟩ = some (.slice ya6 y.2.2.2.2.2.2.1.length yc6) ∧ w'.cell? ⟨w.heap.size + 1, 10, none⟩ = some (.slice ya7 y.2.2.2.2.2.2.2.length yc7) ∧ (∀ j, w'.frozen? ⟨w.heap.size + 1, j, none⟩ = false) := fun w' h => ⟨box_new (by simp) (More.un h) 0, box_new (by simp) (More.un h) 1, box_new (by simp) (More.un h) 2, box_new (by simp) (More.un h) 3, box_new (by simp) (More.un h) 4, box_new (by simp) (More.un h) 5, box_new (by simp) (More.un h) 6, box_new (by simp) (More.un h) 7, box_new (by simp) (More.un h) 8, box_new (by simp) (More.un h) 9, box_new (by simp) (More.un h) 10, fun j => box_free (by simp) (More.un h) j, box_new (by simp) h 0, box_new (by simp) h 1, box_new (by simp) h 2, box_new (by simp) h 3, box_new (by simp) h 4, box_new (by simp) h 5, box_new (by simp) h 6, box_new (by simp) h 7, box_new (by simp) h 8, box_new (by simp) h 9, box_new (by simp) h 10, fun j => box_free (by simp) h j⟩
    go_enter Try.func30, Try.ntmps30
    go_wp2_with fail
    all_goals
      go_ret
      exact ⟨ret_bool (decide_eq_false (fun e => by have h := A2.out; rw [e] at h; simp at h)).symm, mC⟩
  have A2 := Lib.hid a2
  rcases Bool.eq_false_or_eq_true (x.2.2.1.1.2 == y.2.2.1.1.2) with a3 | a3
  rotate_left
  · have A3 := Lib.hid a3
    have HX : More ((w.alloc (.cells #[.int .i64 x.1, .bool x.2.1, .int .i64 x.2.2.1.1.1, .int .i64 x.2.2.1.1.2, .int .i64 x.2.2.1.2.1, .int .i64 x.2.2.1.2.2, .slice xa3 x.2.2.2.1.length xc3, .slice xa4 x.2.2.2.2.1.length xc4, .slice xa5 x.2.2.2.2.2.1.length xc5, .slice xa6 x.2.2.2.2.2.2.1.length xc6, .slice xa7 x.2.2.2.2.2.2.2.length xc7] 69)).alloc (.cells #[.int .i64 y.1, .bool y.2.1, .int .i64 y.2.2.1.1.1, .int .i64 y.2.2.1.1.2, .int .i64 y.2.2.1.2.1, .int .i64 y.2.2.1.2.2, .slice ya3 y.2.2.2.1.length yc3, .slice ya4 y.2.2.2.2.1.length yc4, .slice ya5 y.2.2.2.2.2.1.length yc5, .slice ya6 y.2.2.2.2.2.2.1.length yc6, .slice ya7 y.2.2.2.2.2.2.2.length yc7] 69)) ((w.alloc (.cells #[.int .i64 x.1, .bool x.2.1, .int .i64 x.2.2.1.1.1, .int .i64 x.2.2.1.1.2, .int .i64 x.2.2.1.2.1, .int .i64 x.2.2.1.2.2, .slice xa3 x.2.2.2.1.length xc3, .slice xa4 x.2.2.2.2.1.length xc4, .slice xa5 x.2.2.2.2.2.1.length xc5, .slice xa6 x.2.2.2.2.2.2.1.length xc6, .slice xa7 x.2.2.2.2.2.2.2.length xc7] 69)).alloc (.cells #[.int .i64 y.1, .bool y.2.1, .int .i64 y.2.2.1.1.1, .int .i64 y.2.2.1.1.2, .int .i64 y.2.2.1.2.1, .int .i64 y.2.2.1.2.2, .slice ya3 y.2.2.2.1.length yc3, .slice ya4 y.2.2.2.2.1.length yc4, .slice ya5 y.2.2.2.2.2.1.length yc5, .slice ya6 y.2.2.2.2.2.2.1.length yc6, .slice ya7 y.2.2.2.2.2.2.2.length yc7] 69)) := More.refl _
    have HB : ∀ w', More ((w.alloc (.cells #[.int .i64 x.1, .bool x.2.1, .int .i64 x.2.2.1.1.1, .int .i64 x.2.2.1.1.2, .int .i64 x.2.2.1.2.1, .int .i64 x.2.2.1.2.2, .slice xa3 x.2.2.2.1.length xc3, .slice xa4 x.2.2.2.2.1.length xc4, .slice xa5 x.2.2.2.2.2.1.length xc5, .slice xa6 x.2.2.2.2.2.2.1.length xc6, .slice xa7 x.2.2.2.2.2.2.2.length xc7] 69)).alloc (.cells #[.int .i64 y.1, .bool y.2.1, .int .i64 y.2.2.1.1.1, .int .i64 y.2.2.1.1.2, .int .i64 y.2.2.1.2.1, .int .i64 y.2.2.1.2.2, .slice ya3 y.2.2.2.1.length yc3, .slice ya4 y.2.2.2.2.1.length yc4, .slice ya5 y.2.2.2.2.2.1.length yc5, .slice ya6 y.2.2.2.2.2.2.1.length yc6, .slice ya7 y.2.2.2.2.2.2.2.length yc7] 69)) w' → w'.cell? ⟨w.heap.size, 0, none⟩ = some (.int .i64 x.1) ∧ w'.cell? ⟨w.heap.size, 1, none⟩ = some (.bool x.2.1) ∧ w'.cell? ⟨w.heap.size, 2, none⟩ = some (.int .i64 x.2.2.1.1.1) ∧ w'.cell? ⟨w.heap.size, 3, none⟩ = some (.int .i64 x.2.2.1.1.2) ∧ w'.cell? ⟨w.heap.size, 4, none⟩ = some (.int .i64 x.2.2.1.2.1) ∧ w'.cell? ⟨w.heap.size, 5, none⟩ = some (.int .i64 x.2.2.1.2.2) ∧ w'.cell? ⟨w.heap.size, 6, none⟩ = some (.slice xa3 x.2.2.2.1.length xc3) ∧ w'.cell? ⟨w.heap.size, 7, none⟩ = some (.slice xa4 x.2.2.2.2.1.length xc4) ∧ w'.cell? ⟨w.heap.size, 8, none⟩ = some (.slice xa5 x.2.2.2.2.2.1.length xc5) ∧ w'.cell? ⟨w.heap.size, 9, none⟩ = some (.slice xa6 x.2.2.2.2.2.2.1.length xc6) ∧ w'.cell? ⟨w.heap.size, 10, none⟩ = some (.slice xa7 x.2.2.2.2.2.2.2.length xc7) ∧ (∀ j, w'.frozen? ⟨w.heap.size, j, none⟩ = false) ∧ w'.cell? ⟨w.heap.size + 1, 0, none⟩ = some (.int .i64 y.1) ∧ w'.cell? ⟨w.heap.size + 1, 1, none⟩ = some (.bool y.2.1) ∧ w'.cell? ⟨w.heap.size + 1, 2, none⟩ = some (.int .i64 y.2.2.1.1.1) ∧ w'.cell? ⟨w.heap.size + 1, 3, none⟩ = some (.int .i64 y.2.2.1.1.2) ∧ w'.cell? ⟨w.heap.size + 1, 4, none⟩ = some (.int .i64 y.2.2.1.2.1) ∧ w'.cell? ⟨w.heap.size + 1, 5, none⟩ = some (.int .i64 y.2.2.1.2.2) ∧ w'.cell? ⟨w.heap.size + 1, 6, none⟩ = some (.slice ya3 y.2.2.2.1.length yc3) ∧ w'.cell? ⟨w.heap.size + 1, 7, none⟩ = some (.slice ya4 y.2.2.2.2.1.length yc4) ∧ w'.cell? ⟨w.heap.size + 1, 8, none⟩ = some (.slice ya5 y.2.2.2.2.2.1.length yc5) ∧ w'.cell? ⟨w.heap.size + 1, 9, none⟩ = some (.slice ya6 y.2.2.2.2.2.2.1.length yc6) ∧ w'.cell? ⟨w.heap.size + 1, 10, none⟩ = some (.slice ya7 y.2.2.2.2.2.2.2.length yc7) ∧ (∀ j, w'.frozen? ⟨w.heap.size + 1, j, none⟩ = false) := fun w' h => ⟨box_new (by simp) (More.un h) 0, box_new (by simp) (More.un h) 1, box_new (by simp) (More.un h) 2, box_new (by simp) (More.un h) 3, box_new (by simp) (More.un h) 4, box_new (by simp) (More.un h) 5, box_new (by simp) (More.un h) 6, box_new (by simp) (More.un h) 7, box_new (by simp) (More.un h) 8, box_new (by simp) (More.un h) 9, box_new (by simp) (More.un h) 10, fun j => box_free (by simp) (More.un h) j, box_new (by simp) h 0, box_new (by simp) h 1, box_new (by simp) h 2, box_new (by simp) h 3, box_new (by simp) h 4, box_new (by simp) h 5, box_new (by simp) h 6, box_new (by simp) h 7, box_new (by simp) h 8, box_new (by simp) h 9, box_new (by simp) h 10, fun j => box_free (by simp) h j⟩
    go_enter Try.func30, Try.ntmps30
    go_wp2_with fail
    all_goals
      go_ret
      exact ⟨ret_bool (decide_eq_false (fun e => by have h := A3.out; rw [e] at h; simp at h)).symm, mC⟩
  have A3 := Lib.hid a3
  rcases Bool.eq_false_or_eq_true (x.2.2.1.2.1 == y.2.2.1.2.1) with a4 | a4
  rotate_left
  · have A4 := Lib.hid a4
    have HX : More ((w.alloc (.cells #[.int .i64 x.1, .bool x.2.1, .int .i64 x.2.2.1.1.1, .int .i64 x.2.2.1.1.2, .int .i64 x.2.2.1.2.1, .int .i64 x.2.2.1.2.2, .slice xa3 x.2.2.2.1.length xc3, .slice xa4 x.2.2.2.2.1.length xc4, .slice xa5 x.2.2.2.2.2.1.length xc5, .slice xa6 x.2.2.2.2.2.2.1.length xc6, .slice xa7 x.2.2.2.2.2.2.2.length xc7] 69)).alloc (.cells #[.int .i64 y.1, .bool y.2.1, .int .i64 y.2.2.1.1.1, .int .i64 y.2.2.1.1.2, .int .i64 y.2.2.1.2.1, .int .i64 y.2.2.1.2.2, .slice ya3 y.2.2.2.1.length yc3, .slice ya4 y.2.2.2.2.1.length yc4, .slice ya5 y.2.2.2.2.2.1.length yc5, .slice ya6 y.2.2.2.2.2.2.1.length yc6, .slice ya7 y.2.2.2.2.2.2.2.length yc7] 69)) ((w.alloc (.cells #[.int .i64 x.1, .bool x.2.1, .int .i64 x.2.2.1.1.1, .int .i64 x.2.2.1.1.2, .int .i64 x.2.2.1.2.1, .int .i64 x.2.2.1.2.2, .slice xa3 x.2.2.2.1.length xc3, .slice xa4 x.2.2.2.2.1.length xc4, .slice xa5 x.2.2.2.2.2.1.length xc5, .slice xa6 x.2.2.2.2.2.2.1.length xc6, .slice xa7 x.2.2.2.2.2.2.2.length xc7] 69)).alloc (.cells #[.int .i64 y.1, .bool y.2.1, .int .i64 y.2.2.1.1.1, .int .i64 y.2.2.1.1.2, .int .i64 y.2.2.1.2.1, .int .i64 y.2.2.1.2.2, .slice ya3 y.2.2.2.1.length yc3, .slice ya4 y.2.2.2.2.1.length yc4, .slice ya5 y.2.2.2.2.2.1.length yc5, .slice ya6 y.2.2.2.2.2.2.1.length yc6, .slice ya7 y.2.2.2.2.2.2.2.length yc7] 69)) := More.refl _
    have HB : ∀ w', More ((w.alloc (.cells #[.int .i64 x.1, .bool x.2.1, .int .i64 x.2.2.1.1.1, .int .i64 x.2.2.1.1.2, .int .i64 x.2.2.1.2.1, .int .i64 x.2.2.1.2.2, .slice xa3 x.2.2.2.1.length xc3, .slice xa4 x.2.2.2.2.1.length xc4, .slice xa5 x.2.2.2.2.2.1.length xc5, .slice xa6 x.2.2.2.2.2.2.1.length xc6, .slice xa7 x.2.2.2.2.2.2.2.length xc7] 69)).alloc (.cells #[.int .i64 y.1, .bool y.2.1, .int .i64 y.2.2.1.1.1, .int .i64 y.2.2.1.1.2, .int .i64 y.2.2.1.2.1, .int .i64 y.2.2.1.2.2, .slice ya3 y.2.2.2.1.length yc3, .slice ya4 y.2.2.2.2.1.length yc4, .slice ya5 y.2.2.2.2.2.1.length yc5, .slice ya6 y.2.2.2.2.2.2.1.length yc6, .slice ya7 y.2.2.2.2.2.2.2.length yc7] 69)) w' → w'.cell? ⟨w.heap.size, 0, none⟩ = some (.int .i64 x.1) ∧ w'.cell? ⟨w.heap.size, 1, none⟩ = some (.bool x.2.1) ∧ w'.cell? ⟨w.heap.size, 2, none⟩ = some (.int .i64 x.2.2.1.1.1) ∧ w'.cell? ⟨w.heap.size, 3, none⟩ = some (.int .i64 x.2.2.1.1.2) ∧ w'.cell? ⟨w.heap.size, 4, none⟩ = some (.int .i64 x.2.2.1.2.1) ∧ w'.cell? ⟨w.heap.size, 5, none⟩ = some (.int .i64 x.2.2.1.2.2) ∧ w'.cell? ⟨w.heap.size, 6, none⟩ = some (.slice xa3 x.2.2.2.1.length xc3) ∧ w'.cell? ⟨w.heap.size, 7, none⟩ = some (.slice xa4 x.2.2.2.2.1.length xc4) ∧ w'.cell? ⟨w.heap.size, 8, none⟩ = some (.slice xa5 x.2.2.2.2.2.1.length xc5) ∧ w'.cell? ⟨w.heap.size, 9, none⟩ = some (.slice xa6 x.2.2.2.2.2.2.1.length xc6) ∧ w'.cell? ⟨w.heap.size, 10, none⟩ = some (.slice xa7 x.2.2.2.2.2.2.2.length xc7) ∧ (∀ j, w'.frozen? ⟨w.heap.size, j, none⟩ = false) ∧ w'.cell? ⟨w.heap.size + 1, 0, none⟩ = some (.int .i64 y.1) ∧ w'.cell? ⟨w.heap.size + 1, 1, none⟩ = some (.bool y.2.1) ∧ w'.cell? ⟨w.heap.size + 1, 2, none⟩ = some (.int .i64 y.2.2.1.1.1) ∧ w'.cell? ⟨w.heap.size + 1, 3, none⟩ = some (.int .i64 y.2.2.1.1.2) ∧ w'.cell? ⟨w.heap.size + 1, 4, none⟩ = some (.int .i64 y.2.2.1.2.1) ∧ w'.cell? ⟨w.heap.size + 1, 5, none⟩ = some (.int .i64 y.2.2.1.2.2) ∧ w'.cell? ⟨w.heap.size + 1, 6, none⟩ = some (.slice ya3 y.2.2.2.1.length yc3) ∧ w'.cell? ⟨w.heap.size + 1, 7, none⟩ = some (.slice ya4 y.2.2.2.2.1.length yc4) ∧ w'.cell? ⟨w.heap.size + 1, 8, none⟩ = some (.slice ya5 y.2.2.2.2.2.1.length yc5) ∧ w'.cell? ⟨w.heap.size + 1, 9, none⟩ = some (.slice ya6 y.2.2.2.2.2.2.1.length yc6) ∧ w'.cell? ⟨w.heap.size + 1, 10, none⟩ = some (.slice ya7 y.2.2.2.2.2.2.2.length yc7) ∧ (∀ j, w'.frozen? ⟨w.heap.size + 1, j, none⟩ = false) := fun w' h => ⟨box_new (by simp) (More.un h) 0, box_new (by simp) (More.un h) 1, box_new (by simp) (More.un h) 2, box_new (by simp) (More.un h) 3, box_new (by simp) (More.un h) 4, box_new (by simp) (More.un h) 5, box_new (by simp) (More.un h) 6, box_new (by simp) (More.un h) 7, box_new (by simp) (More.un h) 8, box_new (by simp) (More.un h) 9, box_new (by simp) (More.un h) 10, fun j => box_free (by simp) (More.un h) j, box_new (by simp) h 0, box_new (by simp) h 1, box_new (by simp) h 2, box_new (by simp) h 3, box_new (by simp) h 4, box_new (by simp) h 5, box_new (by simp) h 6, box_new (by simp) h 7, box_new (by simp) h 8, box_new (by simp) h 9, box_new (by simp) h 10, fun j => box_free (by simp) h j⟩
    go_enter Try.func30, Try.ntmps30
    go_wp2_with fail
    all_goals
      go_ret
      exact ⟨ret_bool (decide_eq_false (fun e => by have h := A4.out; rw [e] at h; simp at h)).symm, mC⟩
  have A4 := Lib.hid a4
  rcases Bool.eq_false_or_eq_true (x.2.2.1.2.2 == y.2.2.1.2.2) with a5 | a5
  rotate_left
  · have A5 := Lib.hid a5
    have HX : More ((w.alloc (.cells #[.int .i64 x.1, .bool x.2.1, .int .i64 x.2.2.1.1.1, .int .i64 x.2.2.1.1.2, .int .i64 x.2.2.1.2.1, .int .i64 x.2.2.1.2.2, .slice xa3 x.2.2.2.1.length xc3, .slice xa4 x.2.2.2.2.1.length xc4, .slice xa5 x.2.2.2.2.2.1.length xc5, .slice xa6 x.2.2.2.2.2.2.1.length xc6, .slice xa7 x.2.2.2.2.2.2.2.length xc7] 69)).alloc (.cells #[.int .i64 y.1, .bool y.2.1, .int .i64 y.2.2.1.1.1, .int .i64 y.2.2.1.1.2, .int .i64 y.2.2.1.2.1, .int .i64 y.2.2.1.2.2, .slice ya3 y.2.2.2.1.length yc3, .slice ya4 y.2.2.2.2.1.length yc4, .slice ya5 y.2.2.2.2.2.1.length yc5, .slice ya6 y.2.2.2.2.2.2.1.length yc6, .slice ya7 y.2.2.2.2.2.2.2.length yc7] 69)) ((w.alloc (.cells #[.int .i64 x.1, .bool x.2.1, .int .i64 x.2.2.1.1.1, .int .i64 x.2.2.1.1.2, .int .i64 x.2.2.1.2.1, .int .i64 x.2.2.1.2.2, .slice xa3 x.2.2.2.1.length xc3, .slice xa4 x.2.2.2.2.1.length xc4, .slice xa5 x.2.2.2.2.2.1.length xc5, .slice xa6 x.2.2.2.2.2.2.1.length xc6, .slice xa7 x.2.2.2.2.2.2.2.length xc7] 69)).alloc (.cells #[.int .i64 y.1, .bool y.2.1, .int .i64 y.2.2.1.1.1, .int .i64 y.2.2.1.1.2, .int .i64 y.2.2.1.2.1, .int .i64 y.2.2.1.2.2, .slice ya3 y.2.2.2.1.length yc3, .slice ya4 y.2.2.2.2.1.length yc4, .slice ya5 y.2.2.2.2.2.1.length yc5, .slice ya6 y.2.2.2.2.2.2.1.length yc6, .slice ya7 y.2.2.2.2.2.2.2.length yc7] 69)) := More.refl _
    have HB : ∀ w', More ((w.alloc (.cells #[.int .i64 x.1, .bool x.2.1, .int .i64 x.2.2.1.1.1, .int .i64 x.2.2.1.1.2, .int .i64 x.2.2.1.2.1, .int .i64 x.2.2.1.2.2, .slice xa3 x.2.2.2.1.length xc3, .slice xa4 x.2.2.2.2.1.length xc4, .slice xa5 x.2.2.2.2.2.1.length xc5, .slice xa6 x.2.2.2.2.2.2.1.length xc6, .slice xa7 x.2.2.2.2.2.2.2.length xc7] 69)).alloc (.cells #[.int .i64 y.1, .bool y.2.1, .int .i64 y.2.2.1.1.1, .int .i64 y.2.2.1.1.2, .int .i64 y.2.2.1.2.1, .int .i64 y.2.2.1.2.2, .slice ya3 y.2.2.2.1.length yc3, .slice ya4 y.2.2.2.2.1.length yc4, .slice ya5 y.2.2.2.2.2.1.length yc5, .slice ya6 y.2.2.2.2.2.2.1.length yc6, .slice ya7 y.2.2.2.2.2.2.2.length yc7] 69)) w' → w'.cell? ⟨w.heap.size, 0, none⟩ = some (.int .i64 x.1) ∧ w'.cell? ⟨w.heap.size, 1, none⟩ = some (.bool x.2.1) ∧ w'.cell? ⟨w.heap.size, 2, none⟩ = some (.int .i64 x.2.2.1.1.1) ∧ w'.cell? ⟨w.heap.size, 3, none⟩ = some (.int .i64 x.2.2.1.1.2) ∧ w'.cell? ⟨w.heap.size, 4, none⟩ = some (.int .i64 x.2.2.1.2.1) ∧ w'.cell? ⟨w.heap.size, 5, none⟩ = some (.int .i64 x.2.2.1.2.2) ∧ w'.cell? ⟨w.heap.size, 6, none⟩ = some (.slice xa3 x.2.2.2.1.length xc3) ∧ w'.cell? ⟨w.heap.size, 7, none⟩ = some (.slice xa4 x.2.2.2.2.1.length xc4) ∧ w'.cell? ⟨w.heap.size, 8, none⟩ = some (.slice xa5 x.2.2.2.2.2.1.length xc5) ∧ w'.cell? ⟨w.heap.size, 9, none⟩ = some (.slice xa6 x.2.2.2.2.2.2.1.length xc6) ∧ w'.cell? ⟨w.heap.size, 10, none⟩ = some (.slice xa7 x.2.2.2.2.2.2.2.length xc7) ∧ (∀ j, w'.frozen? ⟨w.heap.size, j, none⟩ = false) ∧ w'.cell? ⟨w.heap.size + 1, 0, none⟩ = some (.int .i64 y.1) ∧ w'.cell? ⟨w.heap.size + 1, 1, none⟩ = some (.bool y.2.1) ∧ w'.cell? ⟨w.heap.size + 1, 2, none⟩ = some (.int .i64 y.2.2.1.1.1) ∧ w'.cell? ⟨w.heap.size + 1, 3, none⟩ = some (.int .i64 y.2.2.1.1.2) ∧ w'.cell? ⟨w.heap.size + 1, 4, none⟩ = some (.int .i64 y.2.2.1.2.1) ∧ w'.cell? ⟨w.heap.size + 1, 5, none⟩ = some (.int .i64 y.2.2.1.2.2) ∧ w'.cell? ⟨w.heap.size + 1, 6, none⟩ = some (.slice ya3 y.2.2.2.1.length yc3) ∧ w'.cell? ⟨w.heap.size + 1, 7, none⟩ = some (.slice ya4 y.2.2.2.2.1.length yc4) ∧ w'.cell? ⟨w.heap.size + 1, 8, none⟩ = some (.slice ya5 y.2.2.2.2.2.1.length yc5) ∧ w'.cell? ⟨w.heap.size + 1, 9, none⟩ = some (.slice ya6 y.2.2.2.2.2.2.1.length yc6) ∧ w'.cell? ⟨w.heap.size + 1, 10, none⟩ = some (.slice ya7 y.2.2.2.2.2.2.2.length yc7) ∧ (∀ j, w'.frozen? ⟨w.heap.size + 1, j, none⟩ = false) := fun w' h => ⟨box_new (by simp) (More.un h) 0, box_new (by simp) (More.un h) 1, box_new (by simp) (More.un h) 2, box_new (by simp) (More.un h) 3, box_new (by simp) (More.un h) 4, box_new (by simp) (More.un h) 5, box_new (by simp) (More.un h) 6, box_new (by simp) (More.un h) 7, box_new (by simp) (More.un h) 8, box_new (by simp) (More.un h) 9, box_new (by simp) (More.un h) 10, fun j => box_free (by simp) (More.un h) j, box_new (by simp) h 0, box_new (by simp) h 1, box_new (by simp) h 2, box_new (by simp) h 3, box_new (by simp) h 4, box_new (by simp) h 5, box_new (by simp) h 6, box_new (by simp) h 7, box_new (by simp) h 8, box_new (by simp) h 9, box_new (by simp) h 10, fun j => box_free (by simp) h j⟩
    go_enter Try.func30, Try.ntmps30
    go_wp2_with fail
    all_goals
      go_ret
      exact ⟨ret_bool (decide_eq_false (fun e => by have h := A5.out; rw [e] at h; simp at h)).symm, mC⟩
  have A5 := Lib.hid a5
  by_cases nA : x.2.2.2.1.length = y.2.2.2.1.length
  rotate_left
  · have NA := Lib.hid nA
    have bA : ((x.2.2.2.1.length : Int) != (y.2.2.2.1.length : Int)) = true := by simp; omega
    have HX : More ((w.alloc (.cells #[.int .i64 x.1, .bool x.2.1, .int .i64 x.2.2.1.1.1, .int .i64 x.2.2.1.1.2, .int .i64 x.2.2.1.2.1, .int .i64 x.2.2.1.2.2, .slice xa3 x.2.2.2.1.length xc3, .slice xa4 x.2.2.2.2.1.length xc4, .slice xa5 x.2.2.2.2.2.1.length xc5, .slice xa6 x.2.2.2.2.2.2.1.length xc6, .slice xa7 x.2.2.2.2.2.2.2.length xc7] 69)).alloc (.cells #[.int .i64 y.1, .bool y.2.1, .int .i64 y.2.2.1.1.1, .int .i64 y.2.2.1.1.2, .int .i64 y.2.2.1.2.1, .int .i64 y.2.2.1.2.2, .slice ya3 y.2.2.2.1.length yc3, .slice ya4 y.2.2.2.2.1.length yc4, .slice ya5 y.2.2.2.2.2.1.length yc5, .slice ya6 y.2.2.2.2.2.2.1.length yc6, .slice ya7 y.2.2.2.2.2.2.2.length yc7] 69)) ((w.alloc (.cells #[.int .i64 x.1, .bool x.2.1, .int .i64 x.2.2.1.1.1, .int .i64 x.2.2.1.1.2, .int .i64 x.2.2.1.2.1, .int .i64 x.2.2.1.2.2, .slice xa3 x.2.2.2.1.length xc3, .slice xa4 x.2.2.2.2.1.length xc4, .slice xa5 x.2.2.2.2.2.1.length xc5, .slice xa6 x.2.2.2.2.2.2.1.length xc6, .slice xa7 x.2.2.2.2.2.2.2.length xc7] 69)).alloc (.cells #[.int .i64 y.1, .bool y.2.1, .int .i64 y.2.2.1.1.1, .int .i64 y.2.2.1.1.2, .int .i64 y.2.2.1.2.1, .int .i64 y.2.2.1.2.2, .slice ya3 y.2.2.2.1.length yc3, .slice ya4 y.2.2.2.2.1.length yc4, .slice ya5 y.2.2.2.2.2.1.length yc5, .slice ya6 y.2.2.2.2.2.2.1.length yc6, .slice ya7 y.2.2.2.2.2.2.2.length yc7] 69)) := More.refl _
    have HB : ∀ w', More ((w.alloc (.cells #[.int .i64 x.1, .bool x.2.1, .int .i64 x.2.2.1.1.1, .int .i64 x.2.2.1.1.2, .int .i64 x.2.2.1.2.1, .int .i64 x.2.2.1.2.2, .slice xa3 x.2.2.2.1.length xc3, .slice xa4 x.2.2.2.2.1.length xc4, .slice xa5 x.2.2.2.2.2.1.length xc5, .slice xa6 x.2.2.2.2.2.2.1.length xc6, .slice xa7 x.2.2.2.2.2.2.2.length xc7] 69)).alloc (.cells #[.int .i64 y.1, .bool y.2.1, .int .i64 y.2.2.1.1.1, .int .i64 y.2.2.1.1.2, .int .i64 y.2.2.1.2.1, .int .i64 y.2.2.1.2.2, .slice ya3 y.2.2.2.1.length yc3, .slice ya4 y.2.2.2.2.1.length yc4, .slice ya5 y.2.2.2.2.2.1.length yc5, .slice ya6 y.2.2.2.2.2.2.1.length yc6, .slice ya7 y.2.2.2.2.2.2.2.length yc7] 69)) w' → w'.cell? ⟨w.heap.size, 0, none⟩ = some (.int .i64 x.1) ∧ w'.cell? ⟨w.heap.size, 1, none⟩ = some (.bool x.2.1) ∧ w'.cell? ⟨w.heap.size, 2, none⟩ = some (.int .i64 x.2.2.1.1.1) ∧ w'.cell? ⟨w.heap.size, 3, none⟩ = some (.int .i64 x.2.2.1.1.2) ∧ w'.cell? ⟨w.heap.size, 4, none⟩ = some (.int .i64 x.2.2.1.2.1) ∧ w'.cell? ⟨w.heap.size, 5, none⟩ = some (.int .i64 x.2.2.1.2.2) ∧ w'.cell? ⟨w.heap.size, 6, none⟩ = some (.slice xa3 x.2.2.2.1.length xc3) ∧ w'.cell? ⟨w.heap.size, 7, none⟩ = some (.slice xa4 x.2.2.2.2.1.length xc4) ∧ w'.cell? ⟨w.heap.size, 8, none⟩ = some (.slice xa5 x.2.2.2.2.2.1.length xc5) ∧ w'.cell? ⟨w.heap.size, 9, none⟩ = some (.slice xa6 x.2.2.2.2.2.2.1.length xc6) ∧ w'.cell? ⟨w.heap.size, 10, none⟩ = some (.slice xa7 x.2.2.2.2.2.2.2.length xc7) ∧ (∀ j, w'.frozen? ⟨w.heap.size, j, none⟩ = false) ∧ w'.cell? ⟨w.heap.size + 1, 0, none⟩ = some (.int .i64 y.1) ∧ w'.cell? ⟨w.heap.size + 1, 1, none⟩ = some (.bool y.2.1) ∧ w'.cell? ⟨w.heap.size + 1, 2, none⟩ = some (.int .i64 y.2.2.1.1.1) ∧ w'.cell? ⟨w.heap.size + 1, 3, none⟩ = some (.int .i64 y.2.2.1.1.2) ∧ w'.cell? ⟨w.heap.size + 1, 4, none⟩ = some (.int .i64 y.2.2.1.2.1) ∧ w'.cell? ⟨w.heap.size + 1, 5, none⟩ = some (.int .i64 y.2.2.1.2.2) ∧ w'.cell? ⟨w.heap.size + 1, 6, none⟩ = some (.slice ya3 y.2.2.2.1.length yc3) ∧ w'.cell? ⟨w.heap.size + 1, 7, none⟩ = some (.slice ya4 y.2.2.2.2.1.length yc4) ∧ w'.cell? ⟨w.heap.size + 1, 8, none⟩ = some (.slice ya5 y.2.2.2.2.2.1.length yc5) ∧ w'.cell? ⟨w.heap.size + 1, 9, none⟩ = some (.slice ya6 y.2.2.2.2.2.2.1.length yc6) ∧ w'.cell? ⟨w.heap.size + 1, 10, none⟩ = some (.slice ya7 y.2.2.2.2.2.2.2.length yc7) ∧ (∀ j, w'.frozen? ⟨w.heap.size + 1, j, none⟩ = false) := fun w' h => ⟨box_new (by simp) (More.un h) 0, box_new (by simp) (More.un h) 1, box_new (by simp) (More.un h) 2, box_new (by simp) (More.un h) 3, box_new (by simp) (More.un h) 4, box_new (by simp) (More.un h) 5, box_new (by simp) (More.un h) 6, box_new (by simp) (More.un h) 7, box_new (by simp) (More.un h) 8, box_new (by simp) (More.un h) 9, box_new (by simp) (More.un h) 10, fun j => box_free (by simp) (More.un h) j, box_new (by simp) h 0, box_new (by simp) h 1, box_new (by simp) h 2, box_new (by simp) h 3, box_new (by simp) h 4, box_new (by simp) h 5, box_new (by simp) h 6, box_new (by simp) h 7, box_new (by simp) h 8, box_new (by simp) h 9, box_new (by simp) h 10, fun j => box_free (by simp) h j⟩
    go_enter Try.func30, Try.ntmps30
    go_wp2_with fail
    all_goals
      go_ret
      exact ⟨ret_bool (decide_eq_false (fun e => NA.out (by rw [e]))).symm, mC⟩
  have bA : ((x.2.2.2.1.length : Int) != (y.2.2.2.1.length : Int)) = false := by simp; omega
  have NA := Lib.hid nA; clear nA
  by_cases nC : x.2.2.2.2.1.length = y.2.2.2.2.1.length
  rotate_left
  · have NC := Lib.hid nC
    have bC : ((x.2.2.2.2.1.length : Int) != (y.2.2.2.2.1.length : Int)) = true := by simp; omega
    have HX : More ((w.alloc (.cells #[.int .i64 x.1, .bool x.2.1, .int .i64 x.2.2.1.1.1, .int .i64 x.2.2.1.1.2, .int .i64 x.2.2.1.2.1, .int .i64 x.2.2.1.2.2, .slice xa3 x.2.2.2.1.length xc3, .slice xa4 x.2.2.2.2.1.length xc4, .slice xa5 x.2.2.2.2.2.1.length xc5, .slice xa6 x.2.2.2.2.2.2.1.length xc6, .slice xa7 x.2.2.2.2.2.2.2.length xc7] 69)).alloc (.cells #[.int .i64 y.1, .bool y.2.1, .int .i64 y.2.2.1.1.1, .int .i64 y.2.2.1.1.2, .int .i64 y.2.2.1.2.1, .int .i64 y.2.2.1.2.2, .slice ya3 y.2.2.2.1.length yc3, .slice ya4 y.2.2.2.2.1.length yc4, .slice ya5 y.2.2.2.2.2.1.length yc5, .slice ya6 y.2.2.2.2.2.2.1.length yc6, .slice ya7 y.2.2.2.2.2.2.2.length yc7] 69)) ((w.alloc (.cells #[.int .i64 x.1, .bool x.2.1, .int .i64 x.2.2.1.1.1, .int .i64 x.2.2.1.1.2, .int .i64 x.2.2.1.2.1, .int .i64 x.2.2.1.2.2, .slice xa3 x.2.2.2.1.length xc3, .slice xa4 x.2.2.2.2.1.length xc4, .slice xa5 x.2.2.2.2.2.1.length xc5, .slice xa6 x.2.2.2.2.2.2.1.length xc6, .slice xa7 x.2.2.2.2.2.2.2.length xc7] 69)).alloc (.cells #[.int .i64 y.1, .bool y.2.1, .int .i64 y.2.2.1.1.1, .int .i64 y.2.2.1.1.2, .int .i64 y.2.2.1.2.1, .int .i64 y.2.2.1.2.2, .slice ya3 y.2.2.2.1.length yc3, .slice ya4 y.2.2.2.2.1.length yc4, .slice ya5 y.2.2.2.2.2.1.length yc5, .slice ya6 y.2.2.2.2.2.2.1.length yc6, .slice ya7 y.2.2.2.2.2.2.2.length yc7] 69)) := More.refl _
    have HB : ∀ w', More ((w.alloc (.cells #[.int .i64 x.1, .bool x.2.1, .int .i64 x.2.2.1.1.1, .int .i64 x.2.2.1.1.2, .int .i64 x.2.2.1.2.1, .int .i64 x.2.2.1.2.2, .slice xa3 x.2.2.2.1.length xc3, .slice xa4 x.2.2.2.2.1.length xc4, .slice xa5 x.2.2.2.2.2.1.length xc5, .slice xa6 x.2.2.2.2.2.2.1.length xc6, .slice xa7 x.2.2.2.2.2.2.2.length xc7] 69)).alloc (.cells #[.int .i64 y.1, .bool y.2.1, .int .i64 y.2.2.1.1.1, .int .i64 y.2.2.1.1.2, .int .i64 y.2.2.1.2.1, .int .i64 y.2.2.1.2.2, .slice ya3 y.2.2.2.1.length yc3, .slice ya4 y.2.2.2.2.1.length yc4, .slice ya5 y.2.2.2.2.2.1.length yc5, .slice ya6 y.2.2.2.2.2.2.1.length yc6, .slice ya7 y.2.2.2.2.2.2.2.length yc7] 69)) w' → w'.cell? ⟨w.heap.size, 0, none⟩ = some (.int .i64 x.1) ∧ w'.cell? ⟨w.heap.size, 1, none⟩ = some (.bool x.2.1) ∧ w'.cell? ⟨w.heap.size, 2, none⟩ = some (.int .i64 x.2.2.1.1.1) ∧ w'.cell? ⟨w.heap.size, 3, none⟩ = some (.int .i64 x.2.2.1.1.2) ∧ w'.cell? ⟨w.heap.size, 4, none⟩ = some (.int .i64 x.2.2.1.2.1) ∧ w'.cell? ⟨w.heap.size, 5, none⟩ = some (.int .i64 x.2.2.1.2.2) ∧ w'.cell? ⟨w.heap.size, 6, none⟩ = some (.slice xa3 x.2.2.2.1.length xc3) ∧ w'.cell? ⟨w.heap.size, 7, none⟩ = some (.slice xa4 x.2.2.2.2.1.length xc4) ∧ w'.cell? ⟨w.heap.size, 8, none⟩ = some (.slice xa5 x.2.2.2.2.2.1.length xc5) ∧ w'.cell? ⟨w.heap.size, 9, none⟩ = some (.slice xa6 x.2.2.2.2.2.2.1.length xc6) ∧ w'.cell? ⟨w.heap.size, 10, none⟩ = some (.slice xa7 x.2.2.2.2.2.2.2.length xc7) ∧ (∀ j, w'.frozen? ⟨w.heap.size, j, none⟩ = false) ∧ w'.cell? ⟨w.heap.size + 1, 0, none⟩ = some (.int .i64 y.1) ∧ w'.cell? ⟨w.heap.size + 1, 1, none⟩ = some (.bool y.2.1) ∧ w'.cell? ⟨w.heap.size + 1, 2, none⟩ = some (.int .i64 y.2.2.1.1.1) ∧ w'.cell? ⟨w.heap.size + 1, 3, none⟩ = some (.int .i64 y.2.2.1.1.2) ∧ w'.cell? ⟨w.heap.size + 1, 4, none⟩ = some (.int .i64 y.2.2.1.2.1) ∧ w'.cell? ⟨w.heap.size + 1, 5, none⟩ = some (.int .i64 y.2.2.1.2.2) ∧ w'.cell? ⟨w.heap.size + 1, 6, none⟩ = some (.slice ya3 y.2.2.2.1.length yc3) ∧ w'.cell? ⟨w.heap.size + 1, 7, none⟩ = some (.slice ya4 y.2.2.2.2.1.length yc4) ∧ w'.cell? ⟨w.heap.size + 1, 8, none⟩ = some (.slice ya5 y.2.2.2.2.2.1.length yc5) ∧ w'.cell? ⟨w.heap.size + 1, 9, none⟩ = some (.slice ya6 y.2.2.2.2.2.2.1.length yc6) ∧ w'.cell? ⟨w.heap.size + 1, 10, none⟩ = some (.slice ya7 y.2.2.2.2.2.2.2.length yc7) ∧ (∀ j, w'.frozen? ⟨w.heap.size + 1, j, none⟩ = false) := fun w' h => ⟨box_new (by simp) (More.un h) 0, box_new (by simp) (More.un h) 1, box_new (by simp) (More.un h) 2, box_new (by simp) (More.un h) 3, box_new (by simp) (More.un h) 4, box_new (by simp) (More.un h) 5, box_new (by simp) (More.un h) 6, box_new (by simp) (More.un h) 7, box_new (by simp) (More.un h) 8, box_new (by simp) (More.un h) 9, box_new (by simp) (More.un h) 10, fun j => box_free (by simp) (More.un h) j, box_new (by simp) h 0, box_new (by simp) h 1, box_new (by simp) h 2, box_new (by simp) h 3, box_new (by simp) h 4, box_new (by simp) h 5, box_new (by simp) h 6, box_new (by simp) h 7, box_new (by simp) h 8, box_new (by simp) h 9, box_new (by simp) h 10, fun j => box_free (by simp) h j⟩
    go_enter Try.func30, Try.ntmps30
    go_wp2_with fail
    all_goals
      go_ret
      exact ⟨ret_bool (decide_eq_false (fun e => NC.out (by rw [e]))).symm, mC⟩
  have bC : ((x.2.2.2.2.1.length : Int) != (y.2.2.2.2.1.length : Int)) = false := by simp; omega
  have NC := Lib.hid nC; clear nC
  by_cases nW : x.2.2.2.2.2.1.length = y.2.2.2.2.2.1.length
  rotate_left
  · have NW := Lib.hid nW
    have bW : ((x.2.2.2.2.2.1.length : Int) != (y.2.2.2.2.2.1.length : Int)) = true := by simp; omega
    have HX : More ((w.alloc (.cells #[.int .i64 x.1, .bool x.2.1, .int .i64 x.2.2.1.1.1, .int .i64 x.2.2.1.1.2, .int .i64 x.2.2.1.2.1, .int .i64 x.2.2.1.2.2, .slice xa3 x.2.2.2.1.length xc3, .slice xa4 x.2.2.2.2.1.length xc4, .slice xa5 x.2.2.2.2.2.1.length xc5, .slice xa6 x.2.2.2.2.2.2.1.length xc6, .slice xa7 x.2.2.2.2.2.2.2.length xc7] 69)).alloc (.cells #[.int .i64 y.1, .bool y.2.1, .int .i64 y.2.2.1.1.1, .int .i64 y.2.2.1.1.2, .int .i64 y.2.2.1.2.1, .int .i64 y.2.2.1.2.2, .slice ya3 y.2.2.2.1.length yc3, .slice ya4 y.2.2.2.2.1.length yc4, .slice ya5 y.2.2.2.2.2.1.length yc5, .slice ya6 y.2.2.2.2.2.2.1.length yc6, .slice ya7 y.2.2.2.2.2.2.2.length yc7] 69)) ((w.alloc (.cells #[.int .i64 x.1, .bool x.2.1, .int .i64 x.2.2.1.1.1, .int .i64 x.2.2.1.1.2, .int .i64 x.2.2.1.2.1, .int .i64 x.2.2.1.2.2, .slice xa3 x.2.2.2.1.length xc3, .slice xa4 x.2.2.2.2.1.length xc4, .slice xa5 x.2.2.2.2.2.1.length xc5, .slice xa6 x.2.2.2.2.2.2.1.length xc6, .slice xa7 x.2.2.2.2.2.2.2.length xc7] 69)).alloc (.cells #[.int .i64 y.1, .bool y.2.1, .int .i64 y.2.2.1.1.1, .int .i64 y.2.2.1.1.2, .int .i64 y.2.2.1.2.1, .int .i64 y.2.2.1.2.2, .slice ya3 y.2.2.2.1.length yc3, .slice ya4 y.2.2.2.2.1.length yc4, .slice ya5 y.2.2.2.2.2.1.length yc5, .slice ya6 y.2.2.2.2.2.2.1.length yc6, .slice ya7 y.2.2.2.2.2.2.2.length yc7] 69)) := More.refl _
    have HB : ∀ w', More ((w.alloc (.cells #[.int .i64 x.1, .bool x.2.1, .int .i64 x.2.2.1.1.1, .int .i64 x.2.2.1.1.2, .int .i64 x.2.2.1.2.1, .int .i64 x.2.2.1.2.2, .slice xa3 x.2.2.2.1.length xc3, .slice xa4 x.2.2.2.2.1.length xc4, .slice xa5 x.2.2.2.2.2.1.length xc5, .slice xa6 x.2.2.2.2.2.2.1.length xc6, .slice xa7 x.2.2.2.2.2.2.2.length xc7] 69)).alloc (.cells #[.int .i64 y.1, .bool y.2.1, .int .i64 y.2.2.1.1.1, .int .i64 y.2.2.1.1.2, .int .i64 y.2.2.1.2.1, .int .i64 y.2.2.1.2.2, .slice ya3 y.2.2.2.1.length yc3, .slice ya4 y.2.2.2.2.1.length yc4, .slice ya5 y.2.2.2.2.2.1.length yc5, .slice ya6 y.2.2.2.2.2.2.1.length yc6, .slice ya7 y.2.2.2.2.2.2.2.length yc7] 69)) w' → w'.cell? ⟨w.heap.size, 0, none⟩ = some (.int .i64 x.1) ∧ w'.cell? ⟨w.heap.size, 1, none⟩ = some (.bool x.2.1) ∧ w'.cell? ⟨w.heap.size, 2, none⟩ = some (.int .i64 x.2.2.1.1.1) ∧ w'.cell? ⟨w.heap.size, 3, none⟩ = some (.int .i64 x.2.2.1.1.2) ∧ w'.cell? ⟨w.heap.size, 4, none⟩ = some (.int .i64 x.2.2.1.2.1) ∧ w'.cell? ⟨w.heap.size, 5, none⟩ = some (.int .i64 x.2.2.1.2.2) ∧ w'.cell? ⟨w.heap.size, 6, none⟩ = some (.slice xa3 x.2.2.2.1.length xc3) ∧ w'.cell? ⟨w.heap.size, 7, none⟩ = some (.slice xa4 x.2.2.2.2.1.length xc4) ∧ w'.cell? ⟨w.heap.size, 8, none⟩ = some (.slice xa5 x.2.2.2.2.2.1.length xc5) ∧ w'.cell? ⟨w.heap.size, 9, none⟩ = some (.slice xa6 x.2.2.2.2.2.2.1.length xc6) ∧ w'.cell? ⟨w.heap.size, 10, none⟩ = some (.slice xa7 x.2.2.2.2.2.2.2.length xc7) ∧ (∀ j, w'.frozen? ⟨w.heap.size, j, none⟩ = false) ∧ w'.cell? ⟨w.heap.size + 1, 0, none⟩ = some (.int .i64 y.1) ∧ w'.cell? ⟨w.heap.size + 1, 1, none⟩ = some (.bool y.2.1) ∧ w'.cell? ⟨w.heap.size + 1, 2, none⟩ = some (.int .i64 y.2.2.1.1.1) ∧ w'.cell? ⟨w.heap.size + 1, 3, none⟩ = some (.int .i64 y.2.2.1.1.2) ∧ w'.cell? ⟨w.heap.size + 1, 4, none⟩ = some (.int .i64 y.2.2.1.2.1) ∧ w'.cell? ⟨w.heap.size + 1, 5, none⟩ = some (.int .i64 y.2.2.1.2.2) ∧ w'.cell? ⟨w.heap.size + 1, 6, none⟩ = some (.slice ya3 y.2.2.2.1.length yc3) ∧ w'.cell? ⟨w.heap.size + 1, 7, none⟩ = some (.slice ya4 y.2.2.2.2.1.length yc4) ∧ w'.cell? ⟨w.heap.size + 1, 8, none⟩ = some (.slice ya5 y.2.2.2.2.2.1.length yc5) ∧ w'.cell? ⟨w.heap.size + 1, 9, none⟩ = some (.slice ya6 y.2.2.2.2.2.2.1.length yc6) ∧ w'.cell? ⟨w.heap.size + 1, 10, none⟩ = some (.slice ya7 y.2.2.2.2.2.2.2.length yc7) ∧ (∀ j, w'.frozen? ⟨w.heap.size + 1, j, none⟩ = false) := fun w' h => ⟨box_new (by simp) (More.un h) 0, box_new (by simp) (More.un h) 1, box_new (by simp) (More.un h) 2, box_new (by simp) (More.un h) 3, box_new (by simp) (More.un h) 4, box_new (by simp) (More.un h) 5, box_new (by simp) (More.un h) 6, box_new (by simp) (More.un h) 7, box_new (by simp) (More.un h) 8, box_new (by simp) (More.un h) 9, box_new (by simp) (More.un h) 10, fun j => box_free (by simp) (More.un h) j, box_new (by simp) h 0, box_new (by simp) h 1, box_new (by simp) h 2, box_new (by simp) h 3, box_new (by simp) h 4, box_new (by simp) h 5, box_new (by simp) h 6, box_new (by simp) h 7, box_new (by simp) h 8, box_new (by simp) h 9, box_new (by simp) h 10, fun j => box_free (by simp) h j⟩
    go_enter Try.func30, Try.ntmps30
    go_wp2_with fail
    all_goals
      go_ret
      exact ⟨ret_bool (decide_eq_false (fun e => NW.out (by rw [e]))).symm, mC⟩
  have bW : ((x.2.2.2.2.2.1.length : Int) != (y.2.2.2.2.2.1.length : Int)) = false := by simp; omega
  have NW := Lib.hid nW; clear nW
  by_cases nD : x.2.2.2.2.2.2.1.length = y.2.2.2.2.2.2.1.length
  rotate_left
  · have ND := Lib.hid nD
    have bD : ((x.2.2.2.2.2.2.1.length : Int) != (y.2.2.2.2.2.2.1.length : Int)) = true := by simp; omega
    have HX : More ((w.alloc (.cells #[.int .i64 x.1, .bool x.2.1, .int .i64 x.2.2.1.1.1, .int .i64 x.2.2.1.1.2, .int .i64 x.2.2.1.2.1, .int .i64 x.2.2.1.2.2, .slice xa3 x.2.2.2.1.length xc3, .slice xa4 x.2.2.2.2.1.length xc4, .slice xa5 x.2.2.2.2.2.1.length xc5, .slice xa6 x.2.2.2.2.2.2.1.length xc6, .slice xa7 x.2.2.2.2.2.2.2.length xc7] 69)).alloc (.cells #[.int .i64 y.1, .bool y.2.1, .int .i64 y.2.2.1.1.1, .int .i64 y.2.2.1.1.2, .int .i64 y.2.2.1.2.1, .int .i64 y.2.2.1.2.2, .slice ya3 y.2.2.2.1.length yc3, .slice ya4 y.2.2.2.2.1.length yc4, .slice ya5 y.2.2.2.2.2.1.length yc5, .slice ya6 y.2.2.2.2.2.2.1.length yc6, .slice ya7 y.2.2.2.2.2.2.2.length yc7] 69)) ((w.alloc (.cells #[.int .i64 x.1, .bool x.2.1, .int .i64 x.2.2.1.1.1, .int .i64 x.2.2.1.1.2, .int .i64 x.2.2.1.2.1, .int .i64 x.2.2.1.2.2, .slice xa3 x.2.2.2.1.length xc3, .slice xa4 x.2.2.2.2.1.length xc4, .slice xa5 x.2.2.2.2.2.1.length xc5, .slice xa6 x.2.2.2.2.2.2.1.length xc6, .slice xa7 x.2.2.2.2.2.2.2.length xc7] 69)).alloc (.cells #[.int .i64 y.1, .bool y.2.1, .int .i64 y.2.2.1.1.1, .int .i64 y.2.2.1.1.2, .int .i64 y.2.2.1.2.1, .int .i64 y.2.2.1.2.2, .slice ya3 y.2.2.2.1.length yc3, .slice ya4 y.2.2.2.2.1.length yc4, .slice ya5 y.2.2.2.2.2.1.length yc5, .slice ya6 y.2.2.2.2.2.2.1.length yc6, .slice ya7 y.2.2.2.2.2.2.2.length yc7] 69)) := More.refl _
    have HB : ∀ w', More ((w.alloc (.cells #[.int .i64 x.1, .bool x.2.1, .int .i64 x.2.2.1.1.1, .int .i64 x.2.2.1.1.2, .int .i64 x.2.2.1.2.1, .int .i64 x.2.2.1.2.2, .slice xa3 x.2.2.2.1.length xc3, .slice xa4 x.2.2.2.2.1.length xc4, .slice xa5 x.2.2.2.2.2.1.length xc5, .slice xa6 x.2.2.2.2.2.2.1.length xc6, .slice xa7 x.2.2.2.2.2.2.2.length xc7] 69)).alloc (.cells #[.int .i64 y.1, .bool y.2.1, .int .i64 y.2.2.1.1.1, .int .i64 y.2.2.1.1.2, .int .i64 y.2.2.1.2.1, .int .i64 y.2.2.1.2.2, .slice ya3 y.2.2.2.1.length yc3, .slice ya4 y.2.2.2.2.1.length yc4, .slice ya5 y.2.2.2.2.2.1.length yc5, .slice ya6 y.2.2.2.2.2.2.1.length yc6, .slice ya7 y.2.2.2.2.2.2.2.length yc7] 69)) w' → w'.cell? ⟨w.heap.size, 0, none⟩ = some (.int .i64 x.1) ∧ w'.cell? ⟨w.heap.size, 1, none⟩ = some (.bool x.2.1) ∧ w'.cell? ⟨w.heap.size, 2, none⟩ = some (.int .i64 x.2.2.1.1.1) ∧ w'.cell? ⟨w.heap.size, 3, none⟩ = some (.int .i64 x.2.2.1.1.2) ∧ w'.cell? ⟨w.heap.size, 4, none⟩ = some (.int .i64 x.2.2.1.2.1) ∧ w'.cell? ⟨w.heap.size, 5, none⟩ = some (.int .i64 x.2.2.1.2.2) ∧ w'.cell? ⟨w.heap.size, 6, none⟩ = some (.slice xa3 x.2.2.2.1.length xc3) ∧ w'.cell? ⟨w.heap.size, 7, none⟩ = some (.slice xa4 x.2.2.2.2.1.length xc4) ∧ w'.cell? ⟨w.heap.size, 8, none⟩ = some (.slice xa5 x.2.2.2.2.2.1.length xc5) ∧ w'.cell? ⟨w.heap.size, 9, none⟩ = some (.slice xa6 x.2.2.2.2.2.2.1.length xc6) ∧ w'.cell? ⟨w.heap.size, 10, none⟩ = some (.slice xa7 x.2.2.2.2.2.2.2.length xc7) ∧ (∀ j, w'.frozen? ⟨w.heap.size, j, none⟩ = false) ∧ w'.cell? ⟨w.heap.size + 1, 0, none⟩ = some (.int .i64 y.1) ∧ w'.cell? ⟨w.heap.size + 1, 1, none⟩ = some (.bool y.2.1) ∧ w'.cell? ⟨w.heap.size + 1, 2, none⟩ = some (.int .i64 y.2.2.1.1.1) ∧ w'.cell? ⟨w.heap.size + 1, 3, none⟩ = some (.int .i64 y.2.2.1.1.2) ∧ w'.cell? ⟨w.heap.size + 1, 4, none⟩ = some (.int .i64 y.2.2.1.2.1) ∧ w'.cell? ⟨w.heap.size + 1, 5, none⟩ = some (.int .i64 y.2.2.1.2.2) ∧ w'.cell? ⟨w.heap.size + 1, 6, none⟩ = some (.slice ya3 y.2.2.2.1.length yc3) ∧ w'.cell? ⟨w.heap.size + 1, 7, none⟩ = some (.slice ya4 y.2.2.2.2.1.length yc4) ∧ w'.cell? ⟨w.heap.size + 1, 8, none⟩ = some (.slice ya5 y.2.2.2.2.2.1.length yc5) ∧ w'.cell? ⟨w.heap.size + 1, 9, none⟩ = some (.slice ya6 y.2.2.2.2.2.2.1.length yc6) ∧ w'.cell? ⟨w.heap.size + 1, 10, none⟩ = some (.slice ya7 y.2.2.2.2.2.2.2.length yc7) ∧ (∀ j, w'.frozen? ⟨w.heap.size + 1, j, none⟩ = false) := fun w' h => ⟨box_new (by simp) (More.un h) 0, box_new (by simp) (More.un h) 1, box_new (by simp) (More.un h) 2, box_new (by simp) (More.un h) 3, box_new (by simp) (More.un h) 4, box_new (by simp) (More.un h) 5, box_new (by simp) (More.un h) 6, box_new (by simp) (More.un h) 7, box_new (by simp) (More.un h) 8, box_new (by simp) (More.un h) 9, box_new (by simp) (More.un h) 10, fun j => box_free (by simp) (More.un h) j, box_new (by simp) h 0, box_new (by simp) h 1, box_new (by simp) h 2, box_new (by simp) h 3, box_new (by simp) h 4, box_new (by simp) h 5, box_new (by simp) h 6, box_new (by simp) h 7, box_new (by simp) h 8, box_new (by simp) h 9, box_new (by simp) h 10, fun j => box_free (by simp) h j⟩
    go_enter Try.func30, Try.ntmps30
    go_wp2_with fail
    all_goals
      go_ret
      exact ⟨ret_bool (decide_eq_false (fun e => ND.out (by rw [e]))).symm, mC⟩
  have bD : ((x.2.2.2.2.2.2.1.length : Int) != (y.2.2.2.2.2.2.1.length : Int)) = false := by simp; omega
  have ND := Lib.hid nD; clear nD
  by_cases nI : x.2.2.2.2.2.2.2.length = y.2.2.2.2.2.2.2.length
  rotate_left
  · have NI := Lib.hid nI
    have bI : ((x.2.2.2.2.2.2.2.length : Int) != (y.2.2.2.2.2.2.2.length : Int)) = true := by simp; omega
    have HX : More ((w.alloc (.cells #[.int .i64 x.1, .bool x.2.1, .int .i64 x.2.2.1.1.1, .int .i64 x.2.2.1.1.2, .int .i64 x.2.2.1.2.1, .int .i64 x.2.2.1.2.2, .slice xa3 x.2.2.2.1.length xc3, .slice xa4 x.2.2.2.2.1.length xc4, .slice xa5 x.2.2.2.2.2.1.length xc5, .slice xa6 x.2.2.2.2.2.2.1.length xc6, .slice xa7 x.2.2.2.2.2.2.2.length xc7] 69)).alloc (.cells #[.int .i64 y.1, .bool y.2.1, .int .i64 y.2.2.1.1.1, .int .i64 y.2.2.1.1.2, .int .i64 y.2.2.1.2.1, .int .i64 y.2.2.1.2.2, .slice ya3 y.2.2.2.1.length yc3, .slice ya4 y.2.2.2.2.1.length yc4, .slice ya5 y.2.2.2.2.2.1.length yc5, .slice ya6 y.2.2.2.2.2.2.1.length yc6, .slice ya7 y.2.2.2.2.2.2.2.length yc7] 69)) ((w.alloc (.cells #[.int .i64 x.1, .bool x.2.1, .int .i64 x.2.2.1.1.1, .int .i64 x.2.2.1.1.2, .int .i64 x.2.2.1.2.1, .int .i64 x.2.2.1.2.2, .slice xa3 x.2.2.2.1.length xc3, .slice xa4 x.2.2.2.2.1.length xc4, .slice xa5 x.2.2.2.2.2.1.length xc5, .slice xa6 x.2.2.2.2.2.2.1.length xc6, .slice xa7 x.2.2.2.2.2.2.2.length xc7] 69)).alloc (.cells #[.int .i64 y.1, .bool y.2.1, .int .i64 y.2.2.1.1.1, .int .i64 y.2.2.1.1.2, .int .i64 y.2.2.1.2.1, .int .i64 y.2.2.1.2.2, .slice ya3 y.2.2.2.1.length yc3, .slice ya4 y.2.2.2.2.1.length yc4, .slice ya5 y.2.2.2.2.2.1.length yc5, .slice ya6 y.2.2.2.2.2.2.1.length yc6, .slice ya7 y.2.2.2.2.2.2.2.length yc7] 69)) := More.refl _
    have HB : ∀ w', More ((w.alloc (.cells #[.int .i64 x.1, .bool x.2.1, .int .i64 x.2.2.1.1.1, .int .i64 x.2.2.1.1.2, .int .i64 x.2.2.1.2.1, .int .i64 x.2.2.1.2.2, .slice xa3 x.2.2.2.1.length xc3, .slice xa4 x.2.2.2.2.1.length xc4, .slice xa5 x.2.2.2.2.2.1.length xc5, .slice xa6 x.2.2.2.2.2.2.1.length xc6, .slice xa7 x.2.2.2.2.2.2.2.length xc7] 69)).alloc (.cells #[.int .i64 y.1, .bool y.2.1, .int .i64 y.2.2.1.1.1, .int .i64 y.2.2.1.1.2, .int .i64 y.2.2.1.2.1, .int .i64 y.2.2.1.2.2, .slice ya3 y.2.2.2.1.length yc3, .slice ya4 y.2.2.2.2.1.length yc4, .slice ya5 y.2.2.2.2.2.1.length yc5, .slice ya6 y.2.2.2.2.2.2.1.length yc6, .slice ya7 y.2.2.2.2.2.2.2.length yc7] 69)) w' → w'.cell? ⟨w.heap.size, 0, none⟩ = some (.int .i64 x.1) ∧ w'.cell? ⟨w.heap.size, 1, none⟩ = some (.bool x.2.1) ∧ w'.cell? ⟨w.heap.size, 2, none⟩ = some (.int .i64 x.2.2.1.1.1) ∧ w'.cell? ⟨w.heap.size, 3, none⟩ = some (.int .i64 x.2.2.1.1.2) ∧ w'.cell? ⟨w.heap.size, 4, none⟩ = some (.int .i64 x.2.2.1.2.1) ∧ w'.cell? ⟨w.heap.size, 5, none⟩ = some (.int .i64 x.2.2.1.2.2) ∧ w'.cell? ⟨w.heap.size, 6, none⟩ = some (.slice xa3 x.2.2.2.1.length xc3) ∧ w'.cell? ⟨w.heap.size, 7, none⟩ = some (.slice xa4 x.2.2.2.2.1.length xc4) ∧ w'.cell? ⟨w.heap.size, 8, none⟩ = some (.slice xa5 x.2.2.2.2.2.1.length xc5) ∧ w'.cell? ⟨w.heap.size, 9, none⟩ = some (.slice xa6 x.2.2.2.2.2.2.1.length xc6) ∧ w'.cell? ⟨w.heap.size, 10, none⟩ = some (.slice xa7 x.2.2.2.2.2.2.2.length xc7) ∧ (∀ j, w'.frozen? ⟨w.heap.size, j, none⟩ = false) ∧ w'.cell? ⟨w.heap.size + 1, 0, none⟩ = some (.int .i64 y.1) ∧ w'.cell? ⟨w.heap.size + 1, 1, none⟩ = some (.bool y.2.1) ∧ w'.cell? ⟨w.heap.size + 1, 2, none⟩ = some (.int .i64 y.2.2.1.1.1) ∧ w'.cell? ⟨w.heap.size + 1, 3, none⟩ = some (.int .i64 y.2.2.1.1.2) ∧ w'.cell? ⟨w.heap.size + 1, 4, none⟩ = some (.int .i64 y.2.2.1.2.1) ∧ w'.cell? ⟨w.heap.size + 1, 5, none⟩ = some (.int .i64 y.2.2.1.2.2) ∧ w'.cell? ⟨w.heap.size + 1, 6, none⟩ = some (.slice ya3 y.2.2.2.1.length yc3) ∧ w'.cell? ⟨w.heap.size + 1, 7, none⟩ = some (.slice ya4 y.2.2.2.2.1.length yc4) ∧ w'.cell? ⟨w.heap.size + 1, 8, none⟩ = some (.slice ya5 y.2.2.2.2.2.1.length yc5) ∧ w'.cell? ⟨w.heap.size + 1, 9, none⟩ = some (.slice ya6 y.2.2.2.2.2.2.1.length yc6) ∧ w'.cell? ⟨w.heap.size + 1, 10, none⟩ = some (.slice ya7 y.2.2.2.2.2.2.2.length yc7) ∧ (∀ j, w'.frozen? ⟨w.heap.size + 1, j, none⟩ = false) := fun w' h => ⟨box_new (by simp) (More.un h) 0, box_new (by simp) (More.un h) 1, box_new (by simp) (More.un h) 2, box_new (by simp) (More.un h) 3, box_new (by simp) (More.un h) 4, box_new (by simp) (More.un h) 5, box_new (by simp) (More.un h) 6, box_new (by simp) (More.un h) 7, box_new (by simp) (More.un h) 8, box_new (by simp) (More.un h) 9, box_new (by simp) (More.un h) 10, fun j => box_free (by simp) (More.un h) j, box_new (by simp) h 0, box_new (by simp) h 1, box_new (by simp) h 2, box_new (by simp) h 3, box_new (by simp) h 4, box_new (by simp) h 5, box_new (by simp) h 6, box_new (by simp) h 7, box_new (by simp) h 8, box_new (by simp) h 9, box_new (by simp) h 10, fun j => box_free (by simp) h j⟩
    go_enter Try.func30, Try.ntmps30
    go_wp2_with fail
    all_goals
      go_ret
      exact ⟨ret_bool (decide_eq_false (fun e => NI.out (by rw [e]))).symm, mC⟩
  have bI : ((x.2.2.2.2.2.2.2.length : Int) != (y.2.2.2.2.2.2.2.length : Int)) = false := by simp; omega
  have NI := Lib.hid nI; clear nI
  rw [show x.1 = y.1 from eq_of_beq A0.out, show x.2.1 = y.2.1 from eq_of_beq A1.out, show x.2.2.1.1.1 = y.2.2.1.1.1 from eq_of_beq A2.out, show x.2.2.1.1.2 = y.2.2.1.1.2 from eq_of_beq A3.out, show x.2.2.1.2.1 = y.2.2.1.2.1 from eq_of_beq A4.out, show x.2.2.1.2.2 = y.2.2.1.2.2 from eq_of_beq A5.out]
  clear a0 a1 a2 a3 a4 a5
  have HX : More ((w.alloc (.cells #[.int .i64 y.1, .bool y.2.1, .int .i64 y.2.2.1.1.1, .int .i64 y.2.2.1.1.2, .int .i64 y.2.2.1.2.1, .int .i64 y.2.2.1.2.2, .slice xa3 x.2.2.2.1.length xc3, .slice xa4 x.2.2.2.2.1.length xc4, .slice xa5 x.2.2.2.2.2.1.length xc5, .slice xa6 x.2.2.2.2.2.2.1.length xc6, .slice xa7 x.2.2.2.2.2.2.2.length xc7] 69)).alloc (.cells #[.int .i64 y.1, .bool y.2.1, .int .i64 y.2.2.1.1.1, .int .i64 y.2.2.1.1.2, .int .i64 y.2.2.1.2.1, .int .i64 y.2.2.1.2.2, .slice ya3 y.2.2.2.1.length yc3, .slice ya4 y.2.2.2.2.1.length yc4, .slice ya5 y.2.2.2.2.2.1.length yc5, .slice ya6 y.2.2.2.2.2.2.1.length yc6, .slice ya7 y.2.2.2.2.2.2.2.length yc7] 69)) ((w.alloc (.cells #[.int .i64 y.1, .bool y.2.1, .int .i64 y.2.2.1.1.1, .int .i64 y.2.2.1.1.2, .int .i64 y.2.2.1.2.1, .int .i64 y.2.2.1.2.2, .slice xa3 x.2.2.2.1.length xc3, .slice xa4 x.2.2.2.2.1.length xc4, .slice xa5 x.2.2.2.2.2.1.length xc5, .slice xa6 x.2.2.2.2.2.2.1.length xc6, .slice xa7 x.2.2.2.2.2.2.2.length xc7] 69)).alloc (.cells #[.int .i64 y.1, .bool y.2.1, .int .i64 y.2.2.1.1.1, .int .i64 y.2.2.1.1.2, .int .i64 y.2.2.1.2.1, .int .i64 y.2.2.1.2.2, .slice ya3 y.2.2.2.1.length yc3, .slice ya4 y.2.2.2.2.1.length yc4, .slice ya5 y.2.2.2.2.2.1.length yc5, .slice ya6 y.2.2.2.2.2.2.1.length yc6, .slice ya7 y.2.2.2.2.2.2.2.length yc7] 69)) := More.refl _
  have HB : ∀ w', More ((w.alloc (.cells #[.int .i64 y.1, .bool y.2.1, .int .i64 y.2.2.1.1.1, .int .i64 y.2.2.1.1.2, .int .i64 y.2.2.1.2.1, .int .i64 y.2.2.1.2.2, .slice xa3 x.2.2.2.1.length xc3, .slice xa4 x.2.2.2.2.1.length xc4, .slice xa5 x.2.2.2.2.2.1.length xc5, .slice xa6 x.2.2.2.2.2.2.1.length xc6, .slice xa7 x.2.2.2.2.2.2.2.length xc7] 69)).alloc (.cells #[.int .i64 y.1, .bool y.2.1, .int .i64 y.2.2.1.1.1, .int .i64 y.2.2.1.1.2, .int .i64 y.2.2.1.2.1, .int .i64 y.2.2.1.2.2, .slice ya3 y.2.2.2.1.length yc3, .slice ya4 y.2.2.2.2.1.length yc4, .slice ya5 y.2.2.2.2.2.1.length yc5, .slice ya6 y.2.2.2.2.2.2.1.length yc6, .slice ya7 y.2.2.2.2.2.2.2.length yc7] 69)) w' → w'.cell? ⟨w.heap.size, 0, none⟩ = some (.int .i64 y.1) ∧ w'.cell? ⟨w.heap.size, 1, none⟩ = some (.bool y.2.1) ∧ w'.cell? ⟨w.heap.size, 2, none⟩ = some (.int .i64 y.2.2.1.1.1) ∧ w'.cell? ⟨w.heap.size, 3, none⟩ = some (.int .i64 y.2.2.1.1.2) ∧ w'.cell? ⟨w.heap.size, 4, none⟩ = some (.int .i64 y.2.2.1.2.1) ∧ w'.cell? ⟨w.heap.size, 5, none⟩ = some (.int .i64 y.2.2.1.2.2) ∧ w'.cell? ⟨w.heap.size, 6, none⟩ = some (.slice xa3 x.2.2.2.1.length xc3) ∧ w'.cell? ⟨w.heap.size, 7, none⟩ = some (.slice xa4 x.2.2.2.2.1.length xc4) ∧ w'.cell? ⟨w.heap.size, 8, none⟩ = some (.slice xa5 x.2.2.2.2.2.1.length xc5) ∧ w'.cell? ⟨w.heap.size, 9, none⟩ = some (.slice xa6 x.2.2.2.2.2.2.1.length xc6) ∧ w'.cell? ⟨w.heap.size, 10, none⟩ = some (.slice xa7 x.2.2.2.2.2.2.2.length xc7) ∧ (∀ j, w'.frozen? ⟨w.heap.size, j, none⟩ = false) ∧ w'.cell? ⟨w.heap.size + 1, 0, none⟩ = some (.int .i64 y.1) ∧ w'.cell? ⟨w.heap.size + 1, 1, none⟩ = some (.bool y.2.1) ∧ w'.cell? ⟨w.heap.size + 1, 2, none⟩ = some (.int .i64 y.2.2.1.1.1) ∧ w'.cell? ⟨w.heap.size + 1, 3, none⟩ = some (.int .i64 y.2.2.1.1.2) ∧ w'.cell? ⟨w.heap.size + 1, 4, none⟩ = some (.int .i64 y.2.2.1.2.1) ∧ w'.cell? ⟨w.heap.size + 1, 5, none⟩ = some (.int .i64 y.2.2.1.2.2) ∧ w'.cell? ⟨w.heap.size + 1, 6, none⟩ = some (.slice ya3 y.2.2.2.1.length yc3) ∧ w'.cell? ⟨w.heap.size + 1, 7, none⟩ = some (.slice ya4 y.2.2.2.2.1.length yc4) ∧ w'.cell? ⟨w.heap.size + 1, 8, none⟩ = some (.slice ya5 y.2.2.2.2.2.1.length yc5) ∧ w'.cell? ⟨w.heap.size + 1, 9, none⟩ = some (.slice ya6 y.2.2.2.2.2.2.1.length yc6) ∧ w'.cell? ⟨w.heap.size + 1, 10, none⟩ = some (.slice ya7 y.2.2.2.2.2.2.2.length yc7) ∧ (∀ j, w'.frozen? ⟨w.heap.size + 1, j, none⟩ = false) := fun w' h => ⟨box_new (by simp) (More.un h) 0, box_new (by simp) (More.un h) 1, box_new (by simp) (More.un h) 2, box_new (by simp) (More.un h) 3, box_new (by simp) (More.un h) 4, box_new (by simp) (More.un h) 5, box_new (by simp) (More.un h) 6, box_new (by simp) (More.un h) 7, box_new (by simp) (More.un h) 8, box_new (by simp) (More.un h) 9, box_new (by simp) (More.un h) 10, fun j => box_free (by simp) (More.un h) j, box_new (by simp) h 0, box_new (by simp) h 1, box_new (by simp) h 2, box_new (by simp) h 3, box_new (by simp) h 4, box_new (by simp) h 5, box_new (by simp) h 6, box_new (by simp) h 7, box_new (by simp) h 8, box_new (by simp) h 9, box_new (by simp) h 10, fun j => box_free (by simp) h j⟩
  go_enter Try.func30, Try.ntmps30
  go_wp2_with fail
  go_loopw [83] (fun i wr => ∃ k : Nat, k ≤ x.2.2.2.1.length ∧ i = .int .i64 k ∧ More ((w.alloc (.cells #[.int .i64 y.1, .bool y.2.1, .int .i64 y.2.2.1.1.1, .int .i64 y.2.2.1.1.2, .int .i64 y.2.2.1.2.1, .int .i64 y.2.2.1.2.2, .slice xa3 x.2.2.2.1.length xc3, .slice xa4 x.2.2.2.2.1.length xc4, .slice xa5 x.2.2.2.2.2.1.length xc5, .slice xa6 x.2.2.2.2.2.2.1.length xc6, .slice xa7 x.2.2.2.2.2.2.2.length xc7] 69)).alloc (.cells #[.int .i64 y.1, .bool y.2.1, .int .i64 y.2.2.1.1.1, .int .i64 y.2.2.1.1.2, .int .i64 y.2.2.1.2.1, .int .i64 y.2.2.1.2.2, .slice ya3 y.2.2.2.1.length yc3, .slice ya4 y.2.2.2.2.1.length yc4, .slice ya5 y.2.2.2.2.2.1.length yc5, .slice ya6 y.2.2.2.2.2.2.1.length yc6, .slice ya7 y.2.2.2.2.2.2.2.length yc7] 69)) wr ∧ Hid (∀ j, j < k → x.2.2.2.1[j]? = y.2.2.2.1[j]?)) (fun i _ => x.2.2.2.1.length - (intOf i).toNat)
  case atStart => exact ⟨0, Nat.zero_le _, rfl, mC, Lib.hid (fun j hj => by omega)⟩
  case round =>
    try clear HMW HMB
    obtain ⟨k, hk, rfl, hmr, HE⟩ := hrel
    have HMW := Lib.hid (More.trans (show More w ((w.alloc (.cells #[.int .i64 y.1, .bool y.2.1, .int .i64 y.2.2.1.1.1, .int .i64 y.2.2.1.1.2, .int .i64 y.2.2.1.2.1, .int .i64 y.2.2.1.2.2, .slice xa3 x.2.2.2.1.length xc3, .slice xa4 x.2.2.2.2.1.length xc4, .slice xa5 x.2.2.2.2.2.1.length xc5, .slice xa6 x.2.2.2.2.2.2.1.length xc6, .slice xa7 x.2.2.2.2.2.2.2.length xc7] 69)).alloc (.cells #[.int .i64 y.1, .bool y.2.1, .int .i64 y.2.2.1.1.1, .int .i64 y.2.2.1.1.2, .int .i64 y.2.2.1.2.1, .int .i64 y.2.2.1.2.2, .slice ya3 y.2.2.2.1.length yc3, .slice ya4 y.2.2.2.2.1.length yc4, .slice ya5 y.2.2.2.2.2.1.length yc5, .slice ya6 y.2.2.2.2.2.2.1.length yc6, .slice ya7 y.2.2.2.2.2.2.2.length yc7] 69)) from mC) hmr)
    have HMB := Lib.hid hmr
    have HBw := HB _ hmr
    by_cases hlt : k < x.2.2.2.1.length
    · skip
      obtain ⟨b, off, a, pa, pn, pc, hadr, hblt, hx, hat, c0_⟩ := el_VecS (Ty.at_more FXA.out HMW.out) (k := k) hlt
      obtain ⟨b', off', c, qa, qn, qc, hadr', hblt', hy, hat', d0_⟩ := el_VecS (Ty.at_more FYA.out HMW.out) (k := k) (by rw [← NA.out]; exact hlt)
      subst hadr; subst hadr'
      have HX_ := Lib.hid hx; have HY_ := Lib.hid hy; have HA := Lib.hid hat; have HA' := Lib.hid hat'; clear hx hy hat hat'
      have hi0 : (0 : Int) ≤ (k : Int) := by omega
      have hi1 : (k : Int) < (x.2.2.2.1.length : Int) := by omega
      have hi2 : (k : Int) < (y.2.2.2.1.length : Int) := by have := NA.out; omega
      have hlt' : k < y.2.2.2.1.length := by have := NA.out; omega
      rcases Bool.eq_false_or_eq_true (decide (a = c)) with hd | hd
      rotate_left
      · have HD := Lib.hid hd
        go_wp2_with fail
        refine (spec_l10Same _ _ a c _ (Ty.at_more HA.out mC) (Ty.at_more HA'.out mC) (show wVecS a ≤ 1048576 by have := wsum_el (f := wVecS) HX_.out; have := WXA.out; unfold wVecSS at this; omega) (show wVecS c ≤ 1048576 by have := wsum_el (f := wVecS) HY_.out; have := WYA.out; unfold wVecSS at this; omega)).mono ?_
        rintro e w1 ⟨rfl, hb1⟩
        rw [hd]
        go_wp2_with fail
        go_ret
        exact ⟨ret_bool (decide_eq_false (fun e => by
          have h1 := HX_.out; have h2 := HY_.out
          rw [e, h2] at h1
          obtain rfl := Option.some.inj h1
          simp at hd)).symm, More.trans HMW.out mC⟩
      have EQ : Hid (a = c) := Lib.hid (of_decide_eq_true hd)
      go_wp2_with fail
      refine (spec_l10Same _ _ a c _ (Ty.at_more HA.out mC) (Ty.at_more HA'.out mC) (show wVecS a ≤ 1048576 by have := wsum_el (f := wVecS) HX_.out; have := WXA.out; unfold wVecSS at this; omega) (show wVecS c ≤ 1048576 by have := wsum_el (f := wVecS) HY_.out; have := WYA.out; unfold wVecSS at this; omega)).mono ?_
      rintro e w1 ⟨rfl, hb1⟩
      rw [hd]
      go_wp2_with fail
      go_roundw
      case rel => exact ⟨k + 1, by omega, by go_num, More.trans hmr mC, Lib.hid (fun j hj => by
        rcases Nat.lt_succ_iff_lt_or_eq.1 hj with h | rfl
        · exact HE.out j h
        · rw [HX_.out, HY_.out, EQ.out])⟩
      case measure => simp [intOf]; omega
    · have EA : Hid (x.2.2.2.1 = y.2.2.2.1) := Lib.hid (el_ext rfl NA.out.symm (fun j hj => HE.out j (by omega)))
      go_wp2_with fail
      go_loopw [100] (fun i wr => ∃ k : Nat, k ≤ x.2.2.2.2.1.length ∧ i = .int .i64 k ∧ More ((w.alloc (.cells #[.int .i64 y.1, .bool y.2.1, .int .i64 y.2.2.1.1.1, .int .i64 y.2.2.1.1.2, .int .i64 y.2.2.1.2.1, .int .i64 y.2.2.1.2.2, .slice xa3 x.2.2.2.1.length xc3, .slice xa4 x.2.2.2.2.1.length xc4, .slice xa5 x.2.2.2.2.2.1.length xc5, .slice xa6 x.2.2.2.2.2.2.1.length xc6, .slice xa7 x.2.2.2.2.2.2.2.length xc7] 69)).alloc (.cells #[.int .i64 y.1, .bool y.2.1, .int .i64 y.2.2.1.1.1, .int .i64 y.2.2.1.1.2, .int .i64 y.2.2.1.2.1, .int .i64 y.2.2.1.2.2, .slice ya3 y.2.2.2.1.length yc3, .slice ya4 y.2.2.2.2.1.length yc4, .slice ya5 y.2.2.2.2.2.1.length yc5, .slice ya6 y.2.2.2.2.2.2.1.length yc6, .slice ya7 y.2.2.2.2.2.2.2.length yc7] 69)) wr ∧ Hid (∀ j, j < k → x.2.2.2.2.1[j]? = y.2.2.2.2.1[j]?)) (fun i _ => x.2.2.2.2.1.length - (intOf i).toNat)
      case atStart => exact ⟨0, Nat.zero_le _, rfl, HMB.out, Lib.hid (fun j hj => by omega)⟩
      case round =>
        try clear HMW HMB
        obtain ⟨k, hk, rfl, hmr, HE⟩ := hrel
        have HMW := Lib.hid (More.trans (show More w ((w.alloc (.cells #[.int .i64 y.1, .bool y.2.1, .int .i64 y.2.2.1.1.1, .int .i64 y.2.2.1.1.2, .int .i64 y.2.2.1.2.1, .int .i64 y.2.2.1.2.2, .slice xa3 x.2.2.2.1.length xc3, .slice xa4 x.2.2.2.2.1.length xc4, .slice xa5 x.2.2.2.2.2.1.length xc5, .slice xa6 x.2.2.2.2.2.2.1.length xc6, .slice xa7 x.2.2.2.2.2.2.2.length xc7] 69)).alloc (.cells #[.int .i64 y.1, .bool y.2.1, .int .i64 y.2.2.1.1.1, .int .i64 y.2.2.1.1.2, .int .i64 y.2.2.1.2.1, .int .i64 y.2.2.1.2.2, .slice ya3 y.2.2.2.1.length yc3, .slice ya4 y.2.2.2.2.1.length yc4, .slice ya5 y.2.2.2.2.2.1.length yc5, .slice ya6 y.2.2.2.2.2.2.1.length yc6, .slice ya7 y.2.2.2.2.2.2.2.length yc7] 69)) from mC) hmr)
        have HMB := Lib.hid hmr
        have HBw := HB _ hmr
        by_cases hlt : k < x.2.2.2.2.1.length
        · skip
          obtain ⟨b, off, a, ca, hadr, hblt, hx, hat, hlen, hr⟩ := el_range (Ty.at_more FXC.out HMW.out) (k := k) hlt
          obtain ⟨b', off', c, cc, hadr', hblt', hy, hat', hlen', hr'⟩ := el_range (Ty.at_more FYC.out HMW.out) (k := k) (by rw [← NC.out]; exact hlt)
          subst hadr; subst hadr'
          have hlen : ca.length = 18 := hlen
          have hlen' : cc.length = 18 := hlen'
          have hr : ∀ w', More wr w' → w'.rangeAt b (off + k * 18) ca := hr
          have hr' : ∀ w', More wr w' → w'.rangeAt b' (off' + k * 18) cc := hr'
          have HX_ := Lib.hid hx; have HY_ := Lib.hid hy; have HA := Lib.hid hat; have HA' := Lib.hid hat'; clear hx hy hat hat'
          have hi0 : (0 : Int) ≤ (k : Int) := by omega
          have hi1 : (k : Int) < (x.2.2.2.2.1.length : Int) := by omega
          have hi2 : (k : Int) < (y.2.2.2.2.1.length : Int) := by have := NC.out; omega
          have hlt' : k < y.2.2.2.2.1.length := by have := NC.out; omega
          have HL := Lib.hid hlen; have HL' := Lib.hid hlen'; have HR := Lib.hid hr; have HR' := Lib.hid hr'; clear hlen hlen' hr hr'
          rcases Bool.eq_false_or_eq_true (decide (a = c)) with hd | hd
          rotate_left
          · have HD := Lib.hid hd
            go_wp2_with (first | (refine wpList_load_mid rfl _ _ rfl b (off + k * 18) rfl ca _ (HR.out _ mC) Try.underlying102 rfl (by rw [HL.out]; kernel_rfl) ?_) | (refine wpList_store_new rfl 102 _ _ rfl wr.heap.size rfl ca rfl rfl (by rw [HL.out]; rfl) (by rw [HL.out]; kernel_rfl) (Ty.one _ HA.out) ?_; intro v1 hm1 q1 q2; have hl1 := Lib.hid q1; have hr1 := Lib.hid q2; clear q1 q2))
            have RB := fun (w' : World) (h : More v1 w') => HB w' (More.trans hmr (More.trans hm1 h))
            have HE1 := Lib.hid (fun (w' : World) (h : More v1 w') => range_keep h hl1.out hr1.out)
            have HE2 := Lib.hid (fun (w' : World) (h : More v1 w') => HR'.out w' (More.trans hm1 h))
            refine wp_region_held_drew (S := (fun w' => More v1 w')) (by kernel_rfl) ?_ (fun hHeld => ?_)
            · first | exact More.refl _ | exact mC
            refine tk (v := .agg ca.toArray) 0 ⟨some 105, _, _, _, _, _⟩ rfl ?_ (fun w9 hSw => run_ld 102 _ rfl wr.heap.size (0) rfl ca _ (HE1.out w9 hSw) Try.underlying102 rfl (by rw [HL.out]; kernel_rfl))
            (try simp only [Act.put, List.setIfInBounds_toArray, List.set_cons_zero, List.set_cons_succ])
            refine tk (v := ?_) 1 ⟨some 106, _, _, _, _, _⟩ rfl ?_ ?_
            rotate_left 2
            · (intro w hSw; (try dsimp only at hSw); go_simp; (try with_reducible rfl))
            (try simp only [Act.put, List.setIfInBounds_toArray, List.set_cons_zero, List.set_cons_succ])
            refine tk (v := ?_) 2 ⟨some 107, _, _, _, _, _⟩ rfl ?_ ?_
            rotate_left 2
            · (intro w hSw; (try dsimp only at hSw); go_simp; (try with_reducible rfl))
            (try simp only [Act.put, List.setIfInBounds_toArray, List.set_cons_zero, List.set_cons_succ])
            refine tk (v := ?_) 3 ⟨some 108, _, _, _, _, _⟩ rfl ?_ ?_
            rotate_left 2
            · (intro w hSw; (try dsimp only at hSw); go_simp; (try with_reducible rfl))
            (try simp only [Act.put, List.setIfInBounds_toArray, List.set_cons_zero, List.set_cons_succ])
            refine tk (v := ?_) 4 ⟨some 109, _, _, _, _, _⟩ rfl ?_ ?_
            rotate_left 2
            · (intro w hSw; (try dsimp only at hSw); go_simp; (try with_reducible rfl))
            (try simp only [Act.put, List.setIfInBounds_toArray, List.set_cons_zero, List.set_cons_succ])
            refine tk (v := .agg cc.toArray) 5 ⟨some 110, _, _, _, _, _⟩ rfl ?_ (fun w9 hSw => run_ld 102 _ rfl b' (off' + k * 18) rfl cc _ (HE2.out w9 hSw) Try.underlying102 rfl (by rw [HL'.out]; kernel_rfl))
            (try simp only [Act.put, List.setIfInBounds_toArray, List.set_cons_zero, List.set_cons_succ])
            refine wpAnyH_ready (rs := [6]) (by kernel_rfl) (by simp) ?_
            refine AllReadyH.cons (o := ⟨some 111, _, _, _, _, _⟩) rfl (fun K hK => ?_) AllReadyH.nil
            go_simp
            (go_at_call 86; refine (spec_l16Cell ca cc a c _ (Ty.at_more HA.out mC) (Ty.at_more HA'.out mC) (show wCell a ≤ 1048576 by have := wsum_el (f := wCell) HX_.out; have := WXC.out; unfold wCellS at this; omega) (show wCell c ≤ 1048576 by have := wsum_el (f := wCell) HY_.out; have := WYC.out; unfold wCellS at this; omega)).mono ?_; rintro e w1 ⟨rfl, hb1⟩; rw [hd])
            refine hK.out _ _ ?_ (fun hHeld => ?_)
            · first | exact More.refl _ | exact mC
            clear hK K
            (try simp only [Act.put, List.setIfInBounds_toArray, List.set_cons_zero, List.set_cons_succ])
            refine tk (v := ?_) 7 ⟨some 112, _, _, _, _, _⟩ rfl ?_ ?_
            rotate_left 2
            · (intro w hSw; (try dsimp only at hSw); go_simp; (try with_reducible rfl))
            (try simp only [Act.put, List.setIfInBounds_toArray, List.set_cons_zero, List.set_cons_succ])
            refine wpAnyH_done (by kernel_rfl) ?_ _
            go_wp2_with fail
            go_ret
            exact ⟨ret_bool (decide_eq_false (fun e => by
              have h1 := HX_.out; have h2 := HY_.out
              rw [e, h2] at h1
              obtain rfl := Option.some.inj h1
              simp at hd)).symm, More.trans HMW.out mC⟩
          have EQ : Hid (a = c) := Lib.hid (of_decide_eq_true hd)
          go_wp2_with (first | (refine wpList_load_mid rfl _ _ rfl b (off + k * 18) rfl ca _ (HR.out _ mC) Try.underlying102 rfl (by rw [HL.out]; kernel_rfl) ?_) | (refine wpList_store_new rfl 102 _ _ rfl wr.heap.size rfl ca rfl rfl (by rw [HL.out]; rfl) (by rw [HL.out]; kernel_rfl) (Ty.one _ HA.out) ?_; intro v1 hm1 q1 q2; have hl1 := Lib.hid q1; have hr1 := Lib.hid q2; clear q1 q2))
          have RB := fun (w' : World) (h : More v1 w') => HB w' (More.trans hmr (More.trans hm1 h))
          have HE1 := Lib.hid (fun (w' : World) (h : More v1 w') => range_keep h hl1.out hr1.out)
          have HE2 := Lib.hid (fun (w' : World) (h : More v1 w') => HR'.out w' (More.trans hm1 h))
          refine wp_region_held_drew (S := (fun w' => More v1 w')) (by kernel_rfl) ?_ (fun hHeld => ?_)
          · first | exact More.refl _ | exact mC
          refine tk (v := .agg ca.toArray) 0 ⟨some 105, _, _, _, _, _⟩ rfl ?_ (fun w9 hSw => run_ld 102 _ rfl wr.heap.size (0) rfl ca _ (HE1.out w9 hSw) Try.underlying102 rfl (by rw [HL.out]; kernel_rfl))
          (try simp only [Act.put, List.setIfInBounds_toArray, List.set_cons_zero, List.set_cons_succ])
          refine tk (v := ?_) 1 ⟨some 106, _, _, _, _, _⟩ rfl ?_ ?_
          rotate_left 2
          · (intro w hSw; (try dsimp only at hSw); go_simp; (try with_reducible rfl))
          (try simp only [Act.put, List.setIfInBounds_toArray, List.set_cons_zero, List.set_cons_succ])
          refine tk (v := ?_) 2 ⟨some 107, _, _, _, _, _⟩ rfl ?_ ?_
          rotate_left 2
          · (intro w hSw; (try dsimp only at hSw); go_simp; (try with_reducible rfl))
          (try simp only [Act.put, List.setIfInBounds_toArray, List.set_cons_zero, List.set_cons_succ])
          refine tk (v := ?_) 3 ⟨some 108, _, _, _, _, _⟩ rfl ?_ ?_
          rotate_left 2
          · (intro w hSw; (try dsimp only at hSw); go_simp; (try with_reducible rfl))
          (try simp only [Act.put, List.setIfInBounds_toArray, List.set_cons_zero, List.set_cons_succ])
          refine tk (v := ?_) 4 ⟨some 109, _, _, _, _, _⟩ rfl ?_ ?_
          rotate_left 2
          · (intro w hSw; (try dsimp only at hSw); go_simp; (try with_reducible rfl))
          (try simp only [Act.put, List.setIfInBounds_toArray, List.set_cons_zero, List.set_cons_succ])
          refine tk (v := .agg cc.toArray) 5 ⟨some 110, _, _, _, _, _⟩ rfl ?_ (fun w9 hSw => run_ld 102 _ rfl b' (off' + k * 18) rfl cc _ (HE2.out w9 hSw) Try.underlying102 rfl (by rw [HL'.out]; kernel_rfl))
          (try simp only [Act.put, List.setIfInBounds_toArray, List.set_cons_zero, List.set_cons_succ])
          refine wpAnyH_ready (rs := [6]) (by kernel_rfl) (by simp) ?_
          refine AllReadyH.cons (o := ⟨some 111, _, _, _, _, _⟩) rfl (fun K hK => ?_) AllReadyH.nil
          go_simp
          (go_at_call 86; refine (spec_l16Cell ca cc a c _ (Ty.at_more HA.out mC) (Ty.at_more HA'.out mC) (show wCell a ≤ 1048576 by have := wsum_el (f := wCell) HX_.out; have := WXC.out; unfold wCellS at this; omega) (show wCell c ≤ 1048576 by have := wsum_el (f := wCell) HY_.out; have := WYC.out; unfold wCellS at this; omega)).mono ?_; rintro e w1 ⟨rfl, hb1⟩; rw [hd])
          refine hK.out _ _ ?_ (fun hHeld => ?_)
          · first | exact More.refl _ | exact mC
          clear hK K
          (try simp only [Act.put, List.setIfInBounds_toArray, List.set_cons_zero, List.set_cons_succ])
          refine tk (v := ?_) 7 ⟨some 112, _, _, _, _, _⟩ rfl ?_ ?_
          rotate_left 2
          · (intro w hSw; (try dsimp only at hSw); go_simp; (try with_reducible rfl))
          (try simp only [Act.put, List.setIfInBounds_toArray, List.set_cons_zero, List.set_cons_succ])
          refine wpAnyH_done (by kernel_rfl) ?_ _
          go_wp2_with fail
          go_roundw
          case rel => exact ⟨k + 1, by omega, by go_num, More.trans hmr mC, Lib.hid (fun j hj => by
            rcases Nat.lt_succ_iff_lt_or_eq.1 hj with h | rfl
            · exact HE.out j h
            · rw [HX_.out, HY_.out, EQ.out])⟩
          case measure => simp [intOf]; omega
        · have EC : Hid (x.2.2.2.2.1 = y.2.2.2.2.1) := Lib.hid (el_ext rfl NC.out.symm (fun j hj => HE.out j (by omega)))
          go_wp2_with fail
          go_loopw [117] (fun i wr => ∃ k : Nat, k ≤ x.2.2.2.2.2.1.length ∧ i = .int .i64 k ∧ More ((w.alloc (.cells #[.int .i64 y.1, .bool y.2.1, .int .i64 y.2.2.1.1.1, .int .i64 y.2.2.1.1.2, .int .i64 y.2.2.1.2.1, .int .i64 y.2.2.1.2.2, .slice xa3 x.2.2.2.1.length xc3, .slice xa4 x.2.2.2.2.1.length xc4, .slice xa5 x.2.2.2.2.2.1.length xc5, .slice xa6 x.2.2.2.2.2.2.1.length xc6, .slice xa7 x.2.2.2.2.2.2.2.length xc7] 69)).alloc (.cells #[.int .i64 y.1, .bool y.2.1, .int .i64 y.2.2.1.1.1, .int .i64 y.2.2.1.1.2, .int .i64 y.2.2.1.2.1, .int .i64 y.2.2.1.2.2, .slice ya3 y.2.2.2.1.length yc3, .slice ya4 y.2.2.2.2.1.length yc4, .slice ya5 y.2.2.2.2.2.1.length yc5, .slice ya6 y.2.2.2.2.2.2.1.length yc6, .slice ya7 y.2.2.2.2.2.2.2.length yc7] 69)) wr ∧ Hid (∀ j, j < k → x.2.2.2.2.2.1[j]? = y.2.2.2.2.2.1[j]?)) (fun i _ => x.2.2.2.2.2.1.length - (intOf i).toNat)
          case atStart => exact ⟨0, Nat.zero_le _, rfl, HMB.out, Lib.hid (fun j hj => by omega)⟩
          case round =>
            try clear HMW HMB
            obtain ⟨k, hk, rfl, hmr, HE⟩ := hrel
            have HMW := Lib.hid (More.trans (show More w ((w.alloc (.cells #[.int .i64 y.1, .bool y.2.1, .int .i64 y.2.2.1.1.1, .int .i64 y.2.2.1.1.2, .int .i64 y.2.2.1.2.1, .int .i64 y.2.2.1.2.2, .slice xa3 x.2.2.2.1.length xc3, .slice xa4 x.2.2.2.2.1.length xc4, .slice xa5 x.2.2.2.2.2.1.length xc5, .slice xa6 x.2.2.2.2.2.2.1.length xc6, .slice xa7 x.2.2.2.2.2.2.2.length xc7] 69)).alloc (.cells #[.int .i64 y.1, .bool y.2.1, .int .i64 y.2.2.1.1.1, .int .i64 y.2.2.1.1.2, .int .i64 y.2.2.1.2.1, .int .i64 y.2.2.1.2.2, .slice ya3 y.2.2.2.1.length yc3, .slice ya4 y.2.2.2.2.1.length yc4, .slice ya5 y.2.2.2.2.2.1.length yc5, .slice ya6 y.2.2.2.2.2.2.1.length yc6, .slice ya7 y.2.2.2.2.2.2.2.length yc7] 69)) from mC) hmr)
            have HMB := Lib.hid hmr
            have HBw := HB _ hmr
            by_cases hlt : k < x.2.2.2.2.2.1.length
            · skip
              obtain ⟨b, off, a, ca, hadr, hblt, hx, hat, hlen, hr⟩ := el_range (Ty.at_more FXW.out HMW.out) (k := k) hlt
              obtain ⟨b', off', c, cc, hadr', hblt', hy, hat', hlen', hr'⟩ := el_range (Ty.at_more FYW.out HMW.out) (k := k) (by rw [← NW.out]; exact hlt)
              subst hadr; subst hadr'
              have hlen : ca.length = 9 := hlen
              have hlen' : cc.length = 9 := hlen'
              have hr : ∀ w', More wr w' → w'.rangeAt b (off + k * 9) ca := hr
              have hr' : ∀ w', More wr w' → w'.rangeAt b' (off' + k * 9) cc := hr'
              obtain ⟨u0, t0, rfl, g0, h0⟩ := at_prod hat
              obtain ⟨u1, t1, rfl, g1, h1⟩ := at_prod h0
              have g2 := h1
              obtain ⟨u0', t0', rfl, g0', h0'⟩ := at_prod hat'
              obtain ⟨u1', t1', rfl, g1', h1'⟩ := at_prod h0'
              have g2' := h1'
              obtain ⟨ua0, un0, uc0, ud0, um0, ue0, rfl⟩ := sh_Rat (show tRat.at wr _ _ from g0)
              obtain ⟨va0, vn0, vc0, vd0, vm0, ve0, rfl⟩ := sh_Rat (show tRat.at wr _ _ from g0')
              obtain ⟨ua1, un1, uc1, ud1, um1, ue1, rfl⟩ := sh_Rat (show tRat.at wr _ _ from g1)
              obtain ⟨va1, vn1, vc1, vd1, vm1, ve1, rfl⟩ := sh_Rat (show tRat.at wr _ _ from g1')
              obtain ⟨ua2, un2, uc2, ud2, um2, ue2, rfl⟩ := sh_Rat (show tRat.at wr _ _ from g2)
              obtain ⟨va2, vn2, vc2, vd2, vm2, ve2, rfl⟩ := sh_Rat (show tRat.at wr _ _ from g2')
              have G0 : Hid (tRat.at wr [.bool a.1.1.1, .slice ua0 un0 uc0, .slice ud0 um0 ue0] a.1) := Lib.hid g0; have G0' : Hid (tRat.at wr [.bool c.1.1.1, .slice va0 vn0 vc0, .slice vd0 vm0 ve0] c.1) := Lib.hid g0'
              have G1 : Hid (tRat.at wr [.bool a.2.1.1.1, .slice ua1 un1 uc1, .slice ud1 um1 ue1] a.2.1) := Lib.hid g1; have G1' : Hid (tRat.at wr [.bool c.2.1.1.1, .slice va1 vn1 vc1, .slice vd1 vm1 ve1] c.2.1) := Lib.hid g1'
              have G2 : Hid (tRat.at wr [.bool a.2.2.1.1, .slice ua2 un2 uc2, .slice ud2 um2 ue2] a.2.2) := Lib.hid g2; have G2' : Hid (tRat.at wr [.bool c.2.2.1.1, .slice va2 vn2 vc2, .slice vd2 vm2 ve2] c.2.2) := Lib.hid g2'
              clear g0 g1 g2 h0 h1 g0' g1' g2' h0' h1' hlen hlen'
              have x0_ : wr.cell? ⟨b, off + k * 9, none⟩ = some _ := hr wr (More.refl _) 0 _ rfl; have y0_ : wr.cell? ⟨b', off' + k * 9, none⟩ = some _ := hr' wr (More.refl _) 0 _ rfl
              have x1_ := hr wr (More.refl _) 1 _ rfl; have y1_ := hr' wr (More.refl _) 1 _ rfl
              have x2_ := hr wr (More.refl _) 2 _ rfl; have y2_ := hr' wr (More.refl _) 2 _ rfl
              have x3_ := hr wr (More.refl _) 3 _ rfl; have y3_ := hr' wr (More.refl _) 3 _ rfl
              have x4_ := hr wr (More.refl _) 4 _ rfl; have y4_ := hr' wr (More.refl _) 4 _ rfl
              have x5_ := hr wr (More.refl _) 5 _ rfl; have y5_ := hr' wr (More.refl _) 5 _ rfl
              have x6_ := hr wr (More.refl _) 6 _ rfl; have y6_ := hr' wr (More.refl _) 6 _ rfl
              have x7_ := hr wr (More.refl _) 7 _ rfl; have y7_ := hr' wr (More.refl _) 7 _ rfl
              have x8_ := hr wr (More.refl _) 8 _ rfl; have y8_ := hr' wr (More.refl _) 8 _ rfl
              clear hr hr'
              have HX_ := Lib.hid hx; have HY_ := Lib.hid hy; have HA := Lib.hid hat; have HA' := Lib.hid hat'; clear hx hy hat hat'
              have hi0 : (0 : Int) ≤ (k : Int) := by omega
              have hi1 : (k : Int) < (x.2.2.2.2.2.1.length : Int) := by omega
              have hi2 : (k : Int) < (y.2.2.2.2.2.1.length : Int) := by have := NW.out; omega
              have hlt' : k < y.2.2.2.2.2.1.length := by have := NW.out; omega
              have HWx : Hid (wWall a ≤ 1048576) := Lib.hid (show wWall a ≤ 1048576 by have := wsum_el (f := wWall) HX_.out; have := WXW.out; unfold wWallS at this; omega); have HWy : Hid (wWall c ≤ 1048576) := Lib.hid (show wWall c ≤ 1048576 by have := wsum_el (f := wWall) HY_.out; have := WYW.out; unfold wWallS at this; omega)
              have Wx0 : Hid (wRat a.1 ≤ 1048576) := Lib.hid (by have h := HWx.out; unfold wWall at h; omega); have Wy0 : Hid (wRat c.1 ≤ 1048576) := Lib.hid (by have h := HWy.out; unfold wWall at h; omega)
              have Wx1 : Hid (wRat a.2.1 ≤ 1048576) := Lib.hid (by have h := HWx.out; unfold wWall at h; omega); have Wy1 : Hid (wRat c.2.1 ≤ 1048576) := Lib.hid (by have h := HWy.out; unfold wWall at h; omega)
              have Wx2 : Hid (wRat a.2.2 ≤ 1048576) := Lib.hid (by have h := HWx.out; unfold wWall at h; omega); have Wy2 : Hid (wRat c.2.2 ≤ 1048576) := Lib.hid (by have h := HWy.out; unfold wWall at h; omega)
              have nb : b ≠ wr.heap.size := by omega
              have nb' : b' ≠ wr.heap.size := by omega
              have HB3 := fun (w' : World) (h : More ((wr.alloc (.cells #[.bool a.1.1.1, .slice ua0 un0 uc0, .slice ud0 um0 ue0, .bool a.2.1.1.1, .slice ua1 un1 uc1, .slice ud1 um1 ue1, .bool a.2.2.1.1, .slice ua2 un2 uc2, .slice ud2 um2 ue2] 135)).alloc (.cells #[.bool c.1.1.1, .slice va0 vn0 vc0, .slice vd0 vm0 ve0, .bool c.2.1.1.1, .slice va1 vn1 vc1, .slice vd1 vm1 ve1, .bool c.2.2.1.1, .slice va2 vn2 vc2, .slice vd2 vm2 ve2] 135)) w') => And.intro (bx9 (wr.heap.size) rfl (More.un h)) (bx9 (wr.heap.size + 1) (by simp) h)
              have HB5 := HB _ (hmr.trans (show More wr (wr.alloc (.cells #[.bool a.1.1.1, .slice ua0 un0 uc0, .slice ud0 um0 ue0, .bool a.2.1.1.1, .slice ua1 un1 uc1, .slice ud1 um1 ue1, .bool a.2.2.1.1, .slice ua2 un2 uc2, .slice ud2 um2 ue2] 135)) from Turns.more ((Turns.refl [] _).alloc _)))
              have HB4 := HB3 _ (More.refl _)
              rcases Bool.eq_false_or_eq_true (decide (a.1 = c.1)) with d0 | d0
              rotate_left
              · have D0 := Lib.hid d0
                have hd : decide (a = c) = false := decide_eq_false (fun e => by have h := D0.out; rw [e] at h; simp at h)
                go_wp2_with (first | (go_at_call 87; (with_reducible refine (spec_RatEqual _ _ a.1 c.1 _ (Ty.at_more G0.out mC) (Ty.at_more G0'.out mC) Wx0.out Wy0.out).mono ?_); rintro e w1 ⟨rfl, hb1⟩; have HB6 := HB3 w1 mC) | (go_at_call 87; (with_reducible refine (spec_RatEqual _ _ a.2.1 c.2.1 _ (Ty.at_more G1.out mC) (Ty.at_more G1'.out mC) Wx1.out Wy1.out).mono ?_); rintro e w1 ⟨rfl, hb1⟩; have HB6 := HB3 w1 mC) | (go_at_call 87; (with_reducible refine (spec_RatEqual _ _ a.2.2 c.2.2 _ (Ty.at_more G2.out mC) (Ty.at_more G2'.out mC) Wx2.out Wy2.out).mono ?_); rintro e w1 ⟨rfl, hb1⟩; have HB6 := HB3 w1 mC))
                go_ret
                exact ⟨ret_bool (decide_eq_false (fun e => by
                  have h1 := HX_.out; have h2 := HY_.out
                  rw [e, h2] at h1
                  obtain rfl := Option.some.inj h1
                  simp at hd)).symm, More.trans HMW.out mC⟩
              have D0 := Lib.hid d0
              rcases Bool.eq_false_or_eq_true (decide (a.2.1 = c.2.1)) with d1 | d1
              rotate_left
              · have D1 := Lib.hid d1
                have hd : decide (a = c) = false := decide_eq_false (fun e => by have h := D1.out; rw [e] at h; simp at h)
                go_wp2_with (first | (go_at_call 87; (with_reducible refine (spec_RatEqual _ _ a.1 c.1 _ (Ty.at_more G0.out mC) (Ty.at_more G0'.out mC) Wx0.out Wy0.out).mono ?_); rintro e w1 ⟨rfl, hb1⟩; have HB6 := HB3 w1 mC) | (go_at_call 87; (with_reducible refine (spec_RatEqual _ _ a.2.1 c.2.1 _ (Ty.at_more G1.out mC) (Ty.at_more G1'.out mC) Wx1.out Wy1.out).mono ?_); rintro e w1 ⟨rfl, hb1⟩; have HB6 := HB3 w1 mC) | (go_at_call 87; (with_reducible refine (spec_RatEqual _ _ a.2.2 c.2.2 _ (Ty.at_more G2.out mC) (Ty.at_more G2'.out mC) Wx2.out Wy2.out).mono ?_); rintro e w1 ⟨rfl, hb1⟩; have HB6 := HB3 w1 mC))
                go_ret
                exact ⟨ret_bool (decide_eq_false (fun e => by
                  have h1 := HX_.out; have h2 := HY_.out
                  rw [e, h2] at h1
                  obtain rfl := Option.some.inj h1
                  simp at hd)).symm, More.trans HMW.out mC⟩
              have D1 := Lib.hid d1
              rcases Bool.eq_false_or_eq_true (decide (a.2.2 = c.2.2)) with d2 | d2
              rotate_left
              · have D2 := Lib.hid d2
                have hd : decide (a = c) = false := decide_eq_false (fun e => by have h := D2.out; rw [e] at h; simp at h)
                go_wp2_with (first | (go_at_call 87; (with_reducible refine (spec_RatEqual _ _ a.1 c.1 _ (Ty.at_more G0.out mC) (Ty.at_more G0'.out mC) Wx0.out Wy0.out).mono ?_); rintro e w1 ⟨rfl, hb1⟩; have HB6 := HB3 w1 mC) | (go_at_call 87; (with_reducible refine (spec_RatEqual _ _ a.2.1 c.2.1 _ (Ty.at_more G1.out mC) (Ty.at_more G1'.out mC) Wx1.out Wy1.out).mono ?_); rintro e w1 ⟨rfl, hb1⟩; have HB6 := HB3 w1 mC) | (go_at_call 87; (with_reducible refine (spec_RatEqual _ _ a.2.2 c.2.2 _ (Ty.at_more G2.out mC) (Ty.at_more G2'.out mC) Wx2.out Wy2.out).mono ?_); rintro e w1 ⟨rfl, hb1⟩; have HB6 := HB3 w1 mC))
                go_ret
                exact ⟨ret_bool (decide_eq_false (fun e => by
                  have h1 := HX_.out; have h2 := HY_.out
                  rw [e, h2] at h1
                  obtain rfl := Option.some.inj h1
                  simp at hd)).symm, More.trans HMW.out mC⟩
              have D2 := Lib.hid d2
              have EQ : Hid (a = c) := Lib.hid (Prod.ext (of_decide_eq_true d0) (Prod.ext (of_decide_eq_true d1) (of_decide_eq_true d2)))
              go_wp2_with (first | (go_at_call 87; (with_reducible refine (spec_RatEqual _ _ a.1 c.1 _ (Ty.at_more G0.out mC) (Ty.at_more G0'.out mC) Wx0.out Wy0.out).mono ?_); rintro e w1 ⟨rfl, hb1⟩; have HB6 := HB3 w1 mC) | (go_at_call 87; (with_reducible refine (spec_RatEqual _ _ a.2.1 c.2.1 _ (Ty.at_more G1.out mC) (Ty.at_more G1'.out mC) Wx1.out Wy1.out).mono ?_); rintro e w1 ⟨rfl, hb1⟩; have HB6 := HB3 w1 mC) | (go_at_call 87; (with_reducible refine (spec_RatEqual _ _ a.2.2 c.2.2 _ (Ty.at_more G2.out mC) (Ty.at_more G2'.out mC) Wx2.out Wy2.out).mono ?_); rintro e w1 ⟨rfl, hb1⟩; have HB6 := HB3 w1 mC))
              go_roundw
              case rel => exact ⟨k + 1, by omega, by go_num, More.trans hmr mC, Lib.hid (fun j hj => by
                rcases Nat.lt_succ_iff_lt_or_eq.1 hj with h | rfl
                · exact HE.out j h
                · rw [HX_.out, HY_.out, EQ.out])⟩
              case measure => simp [intOf]; omega
            · have EW : Hid (x.2.2.2.2.2.1 = y.2.2.2.2.2.1) := Lib.hid (el_ext rfl NW.out.symm (fun j hj => HE.out j (by omega)))
              go_wp2_with fail
              go_loopw [153] (fun i wr => ∃ k : Nat, k ≤ x.2.2.2.2.2.2.1.length ∧ i = .int .i64 k ∧ More ((w.alloc (.cells #[.int .i64 y.1, .bool y.2.1, .int .i64 y.2.2.1.1.1, .int .i64 y.2.2.1.1.2, .int .i64 y.2.2.1.2.1, .int .i64 y.2.2.1.2.2, .slice xa3 x.2.2.2.1.length xc3, .slice xa4 x.2.2.2.2.1.length xc4, .slice xa5 x.2.2.2.2.2.1.length xc5, .slice xa6 x.2.2.2.2.2.2.1.length xc6, .slice xa7 x.2.2.2.2.2.2.2.length xc7] 69)).alloc (.cells #[.int .i64 y.1, .bool y.2.1, .int .i64 y.2.2.1.1.1, .int .i64 y.2.2.1.1.2, .int .i64 y.2.2.1.2.1, .int .i64 y.2.2.1.2.2, .slice ya3 y.2.2.2.1.length yc3, .slice ya4 y.2.2.2.2.1.length yc4, .slice ya5 y.2.2.2.2.2.1.length yc5, .slice ya6 y.2.2.2.2.2.2.1.length yc6, .slice ya7 y.2.2.2.2.2.2.2.length yc7] 69)) wr ∧ Hid (∀ j, j < k → x.2.2.2.2.2.2.1[j]? = y.2.2.2.2.2.2.1[j]?)) (fun i _ => x.2.2.2.2.2.2.1.length - (intOf i).toNat)
              case atStart => exact ⟨0, Nat.zero_le _, rfl, HMB.out, Lib.hid (fun j hj => by omega)⟩
              case round =>
                try clear HMW HMB
                obtain ⟨k, hk, rfl, hmr, HE⟩ := hrel
                have HMW := Lib.hid (More.trans (show More w ((w.alloc (.cells #[.int .i64 y.1, .bool y.2.1, .int .i64 y.2.2.1.1.1, .int .i64 y.2.2.1.1.2, .int .i64 y.2.2.1.2.1, .int .i64 y.2.2.1.2.2, .slice xa3 x.2.2.2.1.length xc3, .slice xa4 x.2.2.2.2.1.length xc4, .slice xa5 x.2.2.2.2.2.1.length xc5, .slice xa6 x.2.2.2.2.2.2.1.length xc6, .slice xa7 x.2.2.2.2.2.2.2.length xc7] 69)).alloc (.cells #[.int .i64 y.1, .bool y.2.1, .int .i64 y.2.2.1.1.1, .int .i64 y.2.2.1.1.2, .int .i64 y.2.2.1.2.1, .int .i64 y.2.2.1.2.2, .slice ya3 y.2.2.2.1.length yc3, .slice ya4 y.2.2.2.2.1.length yc4, .slice ya5 y.2.2.2.2.2.1.length yc5, .slice ya6 y.2.2.2.2.2.2.1.length yc6, .slice ya7 y.2.2.2.2.2.2.2.length yc7] 69)) from mC) hmr)
                have HMB := Lib.hid hmr
                have HBw := HB _ hmr
                by_cases hlt : k < x.2.2.2.2.2.2.1.length
                · skip
                  obtain ⟨b, off, a, hadr, hblt, hx, hat, c0_, c1_⟩ := el_Door (Ty.at_more FXD.out HMW.out) (k := k) hlt
                  obtain ⟨b', off', c, hadr', hblt', hy, hat', d0_, d1_⟩ := el_Door (Ty.at_more FYD.out HMW.out) (k := k) (by rw [← ND.out]; exact hlt)
                  subst hadr; subst hadr'
                  have HX_ := Lib.hid hx; have HY_ := Lib.hid hy; have HA := Lib.hid hat; have HA' := Lib.hid hat'; clear hx hy hat hat'
                  have hi0 : (0 : Int) ≤ (k : Int) := by omega
                  have hi1 : (k : Int) < (x.2.2.2.2.2.2.1.length : Int) := by omega
                  have hi2 : (k : Int) < (y.2.2.2.2.2.2.1.length : Int) := by have := ND.out; omega
                  have hlt' : k < y.2.2.2.2.2.2.1.length := by have := ND.out; omega
                  have nb : b ≠ wr.heap.size := by omega
                  have nb' : b' ≠ wr.heap.size := by omega
                  have HB5 := HB _ (hmr.trans (show More wr (wr.alloc (.cells #[.int .i64 a.1, .int .i64 a.2] 137)) from Turns.more ((Turns.refl [] _).alloc _)))
                  rcases Bool.eq_false_or_eq_true (a.1 == c.1) with d0 | d0
                  rotate_left
                  · have D0 := Lib.hid d0
                    have hd : decide (a = c) = false := decide_eq_false (fun e => by have h := D0.out; rw [e] at h; simp at h)
                    go_wp2_with fail
                    go_quiet (fail)
                    go_wp2_with fail
                    go_ret
                    exact ⟨ret_bool (decide_eq_false (fun e => by
                      have h1 := HX_.out; have h2 := HY_.out
                      rw [e, h2] at h1
                      obtain rfl := Option.some.inj h1
                      simp at hd)).symm, More.trans HMW.out mC⟩
                  rcases Bool.eq_false_or_eq_true (a.2 == c.2) with d1 | d1
                  rotate_left
                  · have D1 := Lib.hid d1
                    have hd : decide (a = c) = false := decide_eq_false (fun e => by have h := D1.out; rw [e] at h; simp at h)
                    go_wp2_with fail
                    go_quiet (fail)
                    go_wp2_with fail
                    go_ret
                    exact ⟨ret_bool (decide_eq_false (fun e => by
                      have h1 := HX_.out; have h2 := HY_.out
                      rw [e, h2] at h1
                      obtain rfl := Option.some.inj h1
                      simp at hd)).symm, More.trans HMW.out mC⟩
                  have EQ : Hid (a = c) := Lib.hid (Prod.ext (eq_of_beq d0) (eq_of_beq d1))
                  go_wp2_with fail
                  go_quiet (fail)
                  go_wp2_with fail
                  go_roundw
                  case rel => exact ⟨k + 1, by omega, by go_num, More.trans hmr mC, Lib.hid (fun j hj => by
                    rcases Nat.lt_succ_iff_lt_or_eq.1 hj with h | rfl
                    · exact HE.out j h
                    · rw [HX_.out, HY_.out, EQ.out])⟩
                  case measure => simp [intOf]; omega
                · have ED : Hid (x.2.2.2.2.2.2.1 = y.2.2.2.2.2.2.1) := Lib.hid (el_ext rfl ND.out.symm (fun j hj => HE.out j (by omega)))
                  go_wp2_with fail
                  go_loopw [169] (fun i wr => ∃ k : Nat, k ≤ x.2.2.2.2.2.2.2.length ∧ i = .int .i64 k ∧ More ((w.alloc (.cells #[.int .i64 y.1, .bool y.2.1, .int .i64 y.2.2.1.1.1, .int .i64 y.2.2.1.1.2, .int .i64 y.2.2.1.2.1, .int .i64 y.2.2.1.2.2, .slice xa3 x.2.2.2.1.length xc3, .slice xa4 x.2.2.2.2.1.length xc4, .slice xa5 x.2.2.2.2.2.1.length xc5, .slice xa6 x.2.2.2.2.2.2.1.length xc6, .slice xa7 x.2.2.2.2.2.2.2.length xc7] 69)).alloc (.cells #[.int .i64 y.1, .bool y.2.1, .int .i64 y.2.2.1.1.1, .int .i64 y.2.2.1.1.2, .int .i64 y.2.2.1.2.1, .int .i64 y.2.2.1.2.2, .slice ya3 y.2.2.2.1.length yc3, .slice ya4 y.2.2.2.2.1.length yc4, .slice ya5 y.2.2.2.2.2.1.length yc5, .slice ya6 y.2.2.2.2.2.2.1.length yc6, .slice ya7 y.2.2.2.2.2.2.2.length yc7] 69)) wr ∧ Hid (∀ j, j < k → x.2.2.2.2.2.2.2[j]? = y.2.2.2.2.2.2.2[j]?)) (fun i _ => x.2.2.2.2.2.2.2.length - (intOf i).toNat)
                  case atStart => exact ⟨0, Nat.zero_le _, rfl, HMB.out, Lib.hid (fun j hj => by omega)⟩
                  case round =>
                    try clear HMW HMB
                    obtain ⟨k, hk, rfl, hmr, HE⟩ := hrel
                    have HMW := Lib.hid (More.trans (show More w ((w.alloc (.cells #[.int .i64 y.1, .bool y.2.1, .int .i64 y.2.2.1.1.1, .int .i64 y.2.2.1.1.2, .int .i64 y.2.2.1.2.1, .int .i64 y.2.2.1.2.2, .slice xa3 x.2.2.2.1.length xc3, .slice xa4 x.2.2.2.2.1.length xc4, .slice xa5 x.2.2.2.2.2.1.length xc5, .slice xa6 x.2.2.2.2.2.2.1.length xc6, .slice xa7 x.2.2.2.2.2.2.2.length xc7] 69)).alloc (.cells #[.int .i64 y.1, .bool y.2.1, .int .i64 y.2.2.1.1.1, .int .i64 y.2.2.1.1.2, .int .i64 y.2.2.1.2.1, .int .i64 y.2.2.1.2.2, .slice ya3 y.2.2.2.1.length yc3, .slice ya4 y.2.2.2.2.1.length yc4, .slice ya5 y.2.2.2.2.2.1.length yc5, .slice ya6 y.2.2.2.2.2.2.1.length yc6, .slice ya7 y.2.2.2.2.2.2.2.length yc7] 69)) from mC) hmr)
                    have HMB := Lib.hid hmr
                    have HBw := HB _ hmr
                    by_cases hlt : k < x.2.2.2.2.2.2.2.length
                    · skip
                      obtain ⟨b, off, a, hadr, hblt, hx, hat, c0_⟩ := int_el (Ty.at_more FXI.out HMW.out) (k := k) hlt
                      obtain ⟨b', off', c, hadr', hblt', hy, hat', d0_⟩ := int_el (Ty.at_more FYI.out HMW.out) (k := k) (by rw [← NI.out]; exact hlt)
                      subst hadr; subst hadr'
                      have HX_ := Lib.hid hx; have HY_ := Lib.hid hy; have HA := Lib.hid hat; have HA' := Lib.hid hat'; clear hx hy hat hat'
                      have hi0 : (0 : Int) ≤ (k : Int) := by omega
                      have hi1 : (k : Int) < (x.2.2.2.2.2.2.2.length : Int) := by omega
                      have hi2 : (k : Int) < (y.2.2.2.2.2.2.2.length : Int) := by have := NI.out; omega
                      have hlt' : k < y.2.2.2.2.2.2.2.length := by have := NI.out; omega
                      rcases Bool.eq_false_or_eq_true (a == c) with d0 | d0
                      rotate_left
                      · have D0 := Lib.hid d0
                        have hd : decide (a = c) = false := decide_eq_false (fun e => by have h := D0.out; rw [e] at h; simp at h)
                        go_wp2_with fail
                        go_ret
                        exact ⟨ret_bool (decide_eq_false (fun e => by
                          have h1 := HX_.out; have h2 := HY_.out
                          rw [e, h2] at h1
                          obtain rfl := Option.some.inj h1
                          simp at hd)).symm, More.trans HMW.out mC⟩
                      have EQ : Hid (a = c) := Lib.hid (eq_of_beq d0)
                      go_wp2_with fail
                      go_roundw
                      case rel => exact ⟨k + 1, by omega, by go_num, More.trans hmr mC, Lib.hid (fun j hj => by
                        rcases Nat.lt_succ_iff_lt_or_eq.1 hj with h | rfl
                        · exact HE.out j h
                        · rw [HX_.out, HY_.out, EQ.out])⟩
                      case measure => simp [intOf]; omega
                    · have EI : Hid (x.2.2.2.2.2.2.2 = y.2.2.2.2.2.2.2) := Lib.hid (el_ext rfl NI.out.symm (fun j hj => HE.out j (by omega)))
                      go_wp2_with fail
                      go_ret
                      exact ⟨ret_bool (decide_eq_true (Prod.ext (eq_of_beq A0.out) (Prod.ext (eq_of_beq A1.out) (Prod.ext (Prod.ext (Prod.ext (eq_of_beq A2.out) (eq_of_beq A3.out)) (Prod.ext (eq_of_beq A4.out) (eq_of_beq A5.out))) (Prod.ext EA.out (Prod.ext EC.out (Prod.ext EW.out (Prod.ext ED.out EI.out)))))))).symm, HMW.out⟩
end Go.Proofs.Ytbbibfeblaocfaa
