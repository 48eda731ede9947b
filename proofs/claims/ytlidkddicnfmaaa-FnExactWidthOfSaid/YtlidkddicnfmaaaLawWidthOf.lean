/- FnExactWidthOf returns true, for every list of vectors. -/
import Derived.Test.YtlidkddicnfmaaaWdi
namespace Go.Proofs.Ytlidkddicnfmaaa
open Go.RowKit
set_option maxRecDepth 8000 in
set_option maxHeartbeats 3200000 in
theorem law_WidthOf {W : World} (v : Value) (l : List QV) (hv : tVecs.at W [v] l) :
    Calls Try.prog 3 #[v] W fun e w' => e = .returned (.bool true) ∧ More W w' := by
  have HV := Lib.hid hv; clear hv
  by_cases hn : l.length ≤ 1048576
  · have Hn := Lib.hid hn
    clear hn
    obtain ⟨⟨⟨a, b⟩, ⟨c, d⟩, t⟩, er⟩ : ∃ r, r = widF l := ⟨_, rfl⟩
    have ER := Lib.hid er; clear er
    go_enter Try.func3, Try.ntmps3
    go_wp2_with fail
    refine (laws_szVecS _ l _ _ HV.out (by decide) (by decide)).mono ?_
    rintro e w1 ⟨rfl, b1⟩
    rw [szI_pos (by have := Hn.out; omega)]
    have z1 : 0 ≤ (1048576 : Int) - l.length := by have := Hn.out; omega
    go_wp2_with fail
    refine (laws_toVecS _ l _ (Ty.at_more HV.out b1) Hn.out).mono ?_
    rintro e w2 ⟨c2, rfl, b2, F2⟩
    go_wp2_with fail
    refine (spec_WidthOf _ l _ (Ty.fresh_at F2) Hn.out).mono ?_
    rintro e w3 ⟨rfl, b3⟩
    rw [← ER.out]
    dsimp only
    have HB1 := fun (w' : World) (h : More ((w3.alloc (.cells #[.int .i64 a, .int .i64 b] 25)).alloc (.cells #[.int .i64 c, .int .i64 d] 25)) w') => (And.intro (VBox.new rfl (More.un h)) (VBox.new (by simp) h) : VBox w' w3.heap.size (.int .i64 a) (.int .i64 b) ∧ VBox w' (w3.heap.size + 1) (.int .i64 c) (.int .i64 d))
    obtain ⟨⟨g1, g2, g3, g4⟩, ⟨g5, g6, g7, g8⟩⟩ := HB1 _ (More.refl _)
    go_wp2_with fail
    clear g1 g2 g3 g4 g5 g6 g7 g8
    refine (laws_toVecS _ l _ (Ty.at_more HV.out mC) Hn.out).mono ?_
    rintro e w4 ⟨x, rfl, b4, F4⟩
    go_wp2_with fail
    refine (impl_WidthOf _ l _ (Ty.fresh_at F4) Hn.out).mono ?_
    rintro e w5 ⟨rfl, b5⟩
    rw [← ER.out]
    dsimp only
    have HB2 := fun (w' : World) (h : More ((w5.alloc (.cells #[.int .i64 a, .int .i64 b] 25)).alloc (.cells #[.int .i64 c, .int .i64 d] 25)) w') => (And.intro (VBox.new rfl (More.un h)) (VBox.new (by simp) h) : VBox w' w5.heap.size (.int .i64 a) (.int .i64 b) ∧ VBox w' (w5.heap.size + 1) (.int .i64 c) (.int .i64 d))
    have M5 : More w5 ((w5.alloc (.cells #[.int .i64 a, .int .i64 b] 25)).alloc (.cells #[.int .i64 c, .int .i64 d] 25)) := Turns.more (((Turns.refl [] _).alloc _).alloc _)
    obtain ⟨⟨g1, g2, g3, g4⟩, ⟨g5, g6, g7, g8⟩⟩ := HB1 _ (More.trans (show More _ w5 from mC) M5)
    obtain ⟨⟨k1, k2, k3, k4⟩, ⟨k5, k6, k7, k8⟩⟩ := HB2 _ (More.refl _)
    go_wp2_with (go_at_call 16; refine (laws_eqVec _ _ _).mono ?_; rintro e w6 ⟨rfl, b6⟩; obtain ⟨⟨i1, i2, i3, i4⟩, ⟨i5, i6, i7, i8⟩⟩ := HB1 w6 mC; obtain ⟨⟨j1, j2, j3, j4⟩, ⟨j5, j6, j7, j8⟩⟩ := HB2 w6 mC)
    refine (laws_toVecS _ l _ (Ty.at_more HV.out mC) Hn.out).mono ?_
    rintro e w8 ⟨t8, rfl, b8, F8⟩
    go_wp2_with fail
    refine (laws_eqVecS _ _ l _ (Ty.at_more (Ty.fresh_at F4) mC) (Ty.fresh_at F8) (by have := Hn.out; omega)).mono ?_
    rintro e w9 ⟨rfl, b9⟩
    go_wp2_with fail
    go_ret
    exact ⟨rfl, mC⟩
  · have hsz : szI l.length 1048576 = -1 := szI_neg (by omega)
    have Hs := Lib.hid hsz; clear hsz
    go_enter Try.func3, Try.ntmps3
    go_wp2_with fail
    refine (laws_szVecS _ l _ _ HV.out (by decide) (by decide)).mono ?_
    rintro e w1 ⟨rfl, b1⟩
    rw [Hs.out]
    go_wp2_with fail
    go_ret
    exact ⟨rfl, b1⟩
end Go.Proofs.Ytlidkddicnfmaaa
