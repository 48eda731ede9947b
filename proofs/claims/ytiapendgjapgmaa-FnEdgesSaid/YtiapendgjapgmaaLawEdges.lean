/- FnEdges returns true, for every input. -/
import Derived.Test.YtiapendgjapgmaaEdr
import Derived.Test.YtiapendgjapgmaaEdl
import Derived.Test.YtiapendgjapgmaaEqFr
import Derived.Test.YtiapendgjapgmaaMan
import Derived.Deep.RegionHeld3
namespace Go.Proofs.Ytiapendgjapgmaa
open Go.RowKit
set_option maxRecDepth 4000 in
set_option maxHeartbeats 1600000 in
theorem impl_RatFromIntE (n : Int) (w : World) (hn : In64 n) :
    Calls Try.prog 9 #[.int .i64 n] w fun e w' => ∃ u v, e = .returned (.agg #[.bool (decide (n < 0)), u, v]) ∧ More w w' ∧ RatAt w' (frInt n) u v := by
  have HN := Lib.hid hn; clear hn
  obtain ⟨s, zs⟩ : ∃ b, decide (n < 0) = b := ⟨_, rfl⟩
  rw [zs]
  have SS := Lib.hid zs; clear zs
  go_enter Try.func9, Try.ntmps9
  go_wp2_with (go_at_call 26; refine (impl_ratInt n _ HN.out).mono ?_; rintro e w1 ⟨u, v, rfl, hb1, g1⟩; rw [SS.out]; obtain ⟨xa, xn, xc, rfl⟩ := sh1 g1.1; obtain ⟨ya, yn, yc, rfl⟩ := sh1 g1.2; have G1 := Lib.hid g1; clear g1; obtain ⟨q0, q1, q2, qf⟩ := bx3 w.heap.size rfl hb1)
  refine bodyPost_ret (v := .agg #[.bool s, .slice xa xn xc, .slice ya yn yc]) ?_ rfl ?_
  · simp [results, Try.results9, go_sem, *]
  · exact ⟨_, _, rfl, mC2, ints_set3 G1.out.1 q0 q1 q2, ints_set3 G1.out.2 q0 q1 q2⟩
theorem ed_in {p : QE} (h : edgeOk p = true) : (In64 p.1.1 ∧ In64 p.1.2) ∧ (In64 p.2.1.1 ∧ In64 p.2.1.2) := by
  obtain ⟨h1, h2, h3, h4, _⟩ := edge_bd h
  exact ⟨⟨In64.small (by omega), In64.small (by omega)⟩, ⟨In64.small (by omega), In64.small (by omega)⟩⟩
set_option maxRecDepth 8000 in
set_option maxHeartbeats 12800000 in
theorem law_Edges {W : World} (v0 : Value) (l : List Int) (hv0 : tCode.at W [v0] l) :
    Calls Try.prog 3 #[v0] W fun e w' => e = .returned (.bool true) ∧ More W w' := by
  obtain ⟨ao, cap, rfl⟩ := sl_len hv0
  have HV := Lib.hid hv0; clear hv0
  by_cases hl : l.length ≤ 1048576
  rotate_left
  · have h1 : (1048576 : Int) < (l.length : Int) := by omega
    go_enter Try.func3, Try.ntmps3
    go_wp2_with fail
    go_ret
    exact ⟨rfl, mC⟩
  have h1 : ¬ (1048576 : Int) < (l.length : Int) := by omega
  have HL := Lib.hid hl
  go_enter Try.func3, Try.ntmps3
  go_wp2_with (first | (go_at_call 5; (with_reducible refine (spec_MakeEdge ao cap l 0 0 _ rfl (Ty.at_more HV.out mC) HL.out (by decide)).mono ?_); rintro e w1 ⟨p, hp, rfl, hb1⟩; have HP := Lib.hid hp; clear hp; have HB3 := fun (w' : World) (h : More (w1.alloc (.cells #[.int .i64 p.1.1, .int .i64 p.1.2, .int .i64 p.2.1.1, .int .i64 p.2.1.2, .int .i64 p.2.2.1, .bool p.2.2.2] 26)) w') => bx6 w1.heap.size rfl h) | (go_at_call 5; (with_reducible refine (spec_MakeEdge ao cap l 1 1 _ rfl (Ty.at_more HV.out mC) HL.out (by decide)).mono ?_); rintro e w2 ⟨q, hq, rfl, hb2⟩; have HQ := Lib.hid hq; clear hq; have HB4 := fun (w' : World) (h : More (w2.alloc (.cells #[.int .i64 q.1.1, .int .i64 q.1.2, .int .i64 q.2.1.1, .int .i64 q.2.1.2, .int .i64 q.2.2.1, .bool q.2.2.2] 26)) w') => bx6 w2.heap.size rfl h; have M2 := HB3 w2 mC; have s3 : w1.heap.size < w2.heap.size := (by have := hb2.size; simp at this; omega)) | (go_at_call 6; (with_reducible refine (impl_CrossingXL p q _ (ed_in HP.out).1 (ed_in HP.out).2 (ed_in HQ.out).1 (ed_in HQ.out).2).mono ?_); rintro e w3 ⟨cs3, rfl, hb3, f3⟩; obtain ⟨ok, hok⟩ : ∃ ok, ok = crsB p q := ⟨_, rfl⟩; obtain ⟨X, hX⟩ : ∃ X, X = encR (crsF p q) := ⟨_, rfl⟩; rw [← hok]; rw [← hX] at f3; obtain ⟨a3, n3, c3, d3, m3, e3, rfl⟩ := sh_Rat (Ty.fresh_at f3); have F3 := Lib.hid (Ty.fresh_at f3); have HOK := Lib.hid hok; have HX := Lib.hid hX; clear f3 hok hX; have HB5 := fun (w' : World) (h : More (w3.alloc (.cells #[.bool X.1.1, .slice a3 n3 c3, .slice d3 m3 e3] 32)) w') => bx3 w3.heap.size rfl h; have M3 := And.intro (HB3 w3 mC) (HB4 w3 mC); have s4 : w1.heap.size < w3.heap.size ∧ w2.heap.size < w3.heap.size := (by have := hb3.size; simp at this; omega); clear M2) | (go_at_call 6; (with_reducible refine (impl_CrossingXL q p _ (ed_in HQ.out).1 (ed_in HQ.out).2 (ed_in HP.out).1 (ed_in HP.out).2).mono ?_); rintro e w4 ⟨cs4, rfl, hb4, f4⟩; rw [crsB_comm HQ.out HP.out, ← HOK.out]; rw [crsF_comm HQ.out HP.out, ← HX.out] at f4; obtain ⟨a4, n4, c4, d4, m4, e4, rfl⟩ := sh_Rat (Ty.fresh_at f4); have F4 := Lib.hid (Ty.fresh_at f4); clear f4; have HB7 := fun (w' : World) (h : More (w4.alloc (.cells #[.bool X.1.1, .slice a4 n4 c4, .slice d4 m4 e4] 32)) w') => bx3 w4.heap.size rfl h; have M4 := And.intro (HB3 w4 mC) (And.intro (HB4 w4 mC) (HB5 w4 mC)); have s5 : w1.heap.size < w4.heap.size ∧ w2.heap.size < w4.heap.size ∧ w3.heap.size < w4.heap.size := (by have := hb4.size; simp at this; omega); clear M3))
  have WX : Hid (wRat X ≤ 1048576) := Lib.hid (by rw [HX.out]; exact crsF_len p q)
  obtain ⟨Y, hY⟩ : ∃ Y, Y = encR (hgtF p X) := ⟨_, rfl⟩
  have HY := Lib.hid hY; clear hY
  have WY : Hid (wRat Y ≤ 1048576) := Lib.hid (by rw [HY.out]; exact hgtF_len p X)
  have RB := fun (w9 : World) (h : More (w4.alloc (.cells #[.bool X.1.1, .slice a4 n4 c4, .slice d4 m4 e4] 32)) w9) => And.intro (HB3 w9 (More.trans (show More (w1.alloc (.cells #[.int .i64 p.1.1, .int .i64 p.1.2, .int .i64 p.2.1.1, .int .i64 p.2.1.2, .int .i64 p.2.2.1, .bool p.2.2.2] 26)) (w4.alloc (.cells #[.bool X.1.1, .slice a4 n4 c4, .slice d4 m4 e4] 32)) from mC) h)) (And.intro (HB4 w9 (More.trans (show More (w2.alloc (.cells #[.int .i64 q.1.1, .int .i64 q.1.2, .int .i64 q.2.1.1, .int .i64 q.2.1.2, .int .i64 q.2.2.1, .bool q.2.2.2] 26)) (w4.alloc (.cells #[.bool X.1.1, .slice a4 n4 c4, .slice d4 m4 e4] 32)) from mC) h)) (And.intro (HB5 w9 (More.trans (show More (w3.alloc (.cells #[.bool X.1.1, .slice a3 n3 c3, .slice d3 m3 e3] 32)) (w4.alloc (.cells #[.bool X.1.1, .slice a4 n4 c4, .slice d4 m4 e4] 32)) from mC) h)) (HB7 w9 h)))
  cases ok with
  | true =>
    have HYq : Hid (encR (hgtF q X) = Y) := Lib.hid (by rw [HY.out, HX.out, same_height HP.out HQ.out HOK.out.symm])
    go_region_held3 (fun w' => More (w4.alloc (.cells #[.bool X.1.1, .slice a4 n4 c4, .slice d4 m4 e4] 32)) w') (first | exact More.refl _ | exact mC) (first | (go_at_call 7; (with_reducible refine (impl_RatEqual [.bool X.1.1, .slice a3 n3 c3, .slice d3 m3 e3] [.bool X.1.1, .slice a4 n4 c4, .slice d4 m4 e4] X X _ (Ty.at_more F3.out mC) (Ty.at_more F4.out mC) WX.out WX.out).mono ?_); rintro e w5 ⟨rfl, hb5⟩; rw [show decide (X = X) = true from decide_eq_true rfl]) | (go_at_call 8; (with_reducible refine (impl_HeightAtL p [.bool X.1.1, .slice a3 n3 c3, .slice d3 m3 e3] X _ (ed_in HP.out).1 (ed_in HP.out).2 (Ty.at_more F3.out mC) WX.out).mono ?_); rintro e w6 ⟨cs6, rfl, hb6, f6⟩; rw [← HY.out] at f6; obtain ⟨a6, n6, c6, d6, m6, e6, rfl⟩ := sh_Rat (Ty.fresh_at f6); have F6 := Lib.hid (Ty.fresh_at f6); clear f6) | (go_at_call 8; (with_reducible refine (impl_HeightAtL q [.bool X.1.1, .slice a3 n3 c3, .slice d3 m3 e3] X _ (ed_in HQ.out).1 (ed_in HQ.out).2 (Ty.at_more F3.out mC) WX.out).mono ?_); rintro e w7 ⟨cs7, rfl, hb7, f7⟩; rw [HYq.out] at f7; obtain ⟨a7, n7, c7, d7, m7, e7, rfl⟩ := sh_Rat (Ty.fresh_at f7); have F7 := Lib.hid (Ty.fresh_at f7); clear f7) | (go_at_call 7; (with_reducible refine (impl_RatEqual [.bool Y.1.1, .slice a6 n6 c6, .slice d6 m6 e6] [.bool Y.1.1, .slice a7 n7 c7, .slice d7 m7 e7] Y Y _ (Ty.at_more F6.out hb7) F7.out WY.out WY.out).mono ?_); rintro e w8 ⟨rfl, hb8⟩; rw [show decide (Y = Y) = true from decide_eq_true rfl]))
    all_goals
      clear RB
      have M8 := HB3 w8 mC
      rcases Bool.eq_false_or_eq_true (decide (p.1.2 ≠ p.2.1.2)) with hgd | hgd
      · skip
        have HGD := Lib.hid hgd
        have hn0 : ¬ p.1.2 = p.2.1.2 := of_decide_eq_true hgd
        have hne : (p.1.2 == p.2.1.2) = false := beq_eq_false_iff_ne.2 hn0
        have hne2 : (p.1.2 != p.2.1.2) = true := by unfold bne; rw [hne]; rfl
        have hne3 : decide (p.1.2 = p.2.1.2) = false := decide_eq_false hn0
        clear hgd
        go_wp2_with (first | (go_at_call 9; (with_reducible refine (impl_RatFromIntE p.1.1 _ (ed_in HP.out).1.1).mono ?_); rintro e w11 ⟨u11, v11, rfl, hb11, g11⟩; obtain ⟨xa, xn, xc, rfl⟩ := sh1 g11.1; obtain ⟨ya, yn, yc, rfl⟩ := sh1 g11.2; have F11 := Lib.hid (show tRat.at w11 [.bool (decide (p.1.1 < 0)), .slice xa xn xc, .slice ya yn yc] (encR (frInt p.1.1)) from RatAt.out g11); clear g11; have HB9 := fun (w9 : World) (h : More (w11.alloc (.cells #[.bool (decide (p.1.1 < 0)), .slice xa xn xc, .slice ya yn yc] 32)) w9) => bx3 w11.heap.size rfl h; have M11 := And.intro (HB3 w11 mC) (And.intro (HB4 w11 mC) (HB5 w11 mC)); have s11 : w1.heap.size < w11.heap.size ∧ w2.heap.size < w11.heap.size ∧ w3.heap.size < w11.heap.size := (And.intro (Nat.lt_of_lt_of_le s5.1 (More.size (show More w4 w11 from mC))) (And.intro (Nat.lt_of_lt_of_le s5.2.1 (More.size (show More w4 w11 from mC))) (Nat.lt_of_lt_of_le s5.2.2 (More.size (show More w4 w11 from mC)))))) | (go_at_call 10; (with_reducible refine (impl_LevelXL p p.1.2 _ (ed_in HP.out).1 (ed_in HP.out).2).mono ?_); rintro e w12 ⟨cs12, rfl, hb12, f12⟩; obtain ⟨Z, hZ⟩ : ∃ Z, Z = encR (lvlF p p.1.2) := ⟨_, rfl⟩; rw [lvl_ok HP.out, HGD.out]; rw [← hZ] at f12; have HZ := Lib.hid hZ; clear hZ; obtain ⟨a12, n12, c12, d12, m12, e12, rfl⟩ := sh_Rat (Ty.fresh_at f12); have F12 := Lib.hid (Ty.fresh_at f12); clear f12; have HB10 := fun (w9 : World) (h : More (w12.alloc (.cells #[.bool Z.1.1, .slice a12 n12 c12, .slice d12 m12 e12] 32)) w9) => bx3 w12.heap.size rfl h))
        have RB := fun (w9 : World) (h : More (w12.alloc (.cells #[.bool Z.1.1, .slice a12 n12 c12, .slice d12 m12 e12] 32)) w9) => And.intro (HB3 w9 (More.trans (show More (w1.alloc (.cells #[.int .i64 p.1.1, .int .i64 p.1.2, .int .i64 p.2.1.1, .int .i64 p.2.1.2, .int .i64 p.2.2.1, .bool p.2.2.2] 26)) (w12.alloc (.cells #[.bool Z.1.1, .slice a12 n12 c12, .slice d12 m12 e12] 32)) from mC) h)) (And.intro (HB9 w9 (More.trans (show More (w11.alloc (.cells #[.bool (decide (p.1.1 < 0)), .slice xa xn xc, .slice ya yn yc] 32)) (w12.alloc (.cells #[.bool Z.1.1, .slice a12 n12 c12, .slice d12 m12 e12] 32)) from mC) h)) (HB10 w9 h))
        have HZA : Hid (Z = encR (frInt p.1.1)) := Lib.hid (by rw [HZ.out, lvl_val HP.out (by rw [lvl_ok HP.out, HGD.out])])
        have WZ : Hid (wRat Z ≤ 1048576) := Lib.hid (by rw [HZA.out]; exact wRat_int (ed_in HP.out).1.1)
        go_region_held3 (fun w' => More (w12.alloc (.cells #[.bool Z.1.1, .slice a12 n12 c12, .slice d12 m12 e12] 32)) w') (first | exact More.refl _ | exact mC) (first | (go_at_call 11; (with_reducible refine (impl_IsValidEdge p.1.1 p.1.2 p.2.1.1 p.2.1.2 p.2.2.1 p.2.2.2 _ (ed_in HP.out).1 (ed_in HP.out).2).mono ?_); rintro e w13 ⟨rfl, hb13⟩; rw [show edgeOk ((p.1.1, p.1.2), (p.2.1.1, p.2.1.2), p.2.2.1, p.2.2.2) = true from HP.out]) | (go_at_call 8; (with_reducible refine (impl_HeightAtL p [.bool (decide (p.1.1 < 0)), .slice xa xn xc, .slice ya yn yc] (encR (frInt p.1.1)) _ (ed_in HP.out).1 (ed_in HP.out).2 (Ty.at_more F11.out mC) (wRat_int (ed_in HP.out).1.1)).mono ?_); rintro e w14 ⟨cs14, rfl, hb14, f14⟩; rw [height_a HP.out] at f14; obtain ⟨a14, n14, c14, d14, m14, e14, rfl⟩ := sh_Rat (Ty.fresh_at f14); have F14 := Lib.hid (Ty.fresh_at f14); clear f14) | (go_at_call 9; (with_reducible refine (impl_RatFromIntE p.1.2 _ (ed_in HP.out).1.2).mono ?_); rintro e w15 ⟨u15, v15, rfl, hb15, g15⟩; have F15 := Lib.hid (show tRat.at w15 [.bool (decide (p.1.2 < 0)), u15, v15] (encR (frInt p.1.2)) from RatAt.out g15); clear g15) | (go_at_call 7; (with_reducible refine (impl_RatEqual [.bool (encR (frInt p.1.2)).1.1, .slice a14 n14 c14, .slice d14 m14 e14] [.bool (decide (p.1.2 < 0)), u15, v15] (encR (frInt p.1.2)) (encR (frInt p.1.2)) _ (Ty.at_more F14.out hb15) F15.out (wRat_int (ed_in HP.out).1.2) (wRat_int (ed_in HP.out).1.2)).mono ?_); rintro e w16 ⟨rfl, hb16⟩; rw [show decide (encR (frInt p.1.2) = encR (frInt p.1.2)) = true from decide_eq_true rfl]) | (go_at_call 9; (with_reducible refine (impl_RatFromIntE p.2.1.1 _ (ed_in HP.out).2.1).mono ?_); rintro e w17 ⟨u17, v17, rfl, hb17, g17⟩; have F17 := Lib.hid (show tRat.at w17 [.bool (decide (p.2.1.1 < 0)), u17, v17] (encR (frInt p.2.1.1)) from RatAt.out g17); clear g17) | (go_at_call 12; (with_reducible refine (impl_SpansX p.1.1 p.1.2 p.2.1.1 p.2.1.2 p.2.2.1 p.2.2.2 [.bool (decide (p.1.1 < 0)), .slice xa xn xc, .slice ya yn yc] (encR (frInt p.1.1)) [.bool (decide (p.2.1.1 < 0)), u17, v17] (encR (frInt p.2.1.1)) _ (ed_in HP.out).1 (ed_in HP.out).2 (Ty.at_more F11.out mC) (wRat_int (ed_in HP.out).1.1) F17.out (wRat_int (ed_in HP.out).2.1)).mono ?_); rintro e w18 ⟨rfl, hb18⟩; rw [show spanB ((p.1.1, p.1.2), (p.2.1.1, p.2.1.2), p.2.2.1, p.2.2.2) (encR (frInt p.1.1)) (encR (frInt p.2.1.1)) = true from spans_ab HP.out]) | (go_at_call 7; (with_reducible refine (impl_RatEqual [.bool Z.1.1, .slice a12 n12 c12, .slice d12 m12 e12] [.bool (decide (p.1.1 < 0)), .slice xa xn xc, .slice ya yn yc] Z (encR (frInt p.1.1)) _ (Ty.at_more F12.out mC) (Ty.at_more F11.out mC) WZ.out (wRat_int (ed_in HP.out).1.1)).mono ?_); rintro e w19 ⟨rfl, hb19⟩; rw [show decide (Z = encR (frInt p.1.1)) = true from decide_eq_true HZA.out]))
        all_goals
          go_wp2_with fail
          go_ret
          exact ⟨rfl, mC⟩
      · skip
        have HGD := Lib.hid hgd
        have hn0 : p.1.2 = p.2.1.2 := Classical.byContradiction (of_decide_eq_false hgd)
        have hne : (p.1.2 == p.2.1.2) = true := by rw [hn0]; exact beq_self_eq_true _
        have hne2 : (p.1.2 != p.2.1.2) = false := by unfold bne; rw [hne]; rfl
        have hne3 : decide (p.1.2 = p.2.1.2) = true := decide_eq_true hn0
        clear hn0
        clear hgd
        go_wp2_with (first | (go_at_call 9; (with_reducible refine (impl_RatFromIntE p.1.1 _ (ed_in HP.out).1.1).mono ?_); rintro e w11 ⟨u11, v11, rfl, hb11, g11⟩; obtain ⟨xa, xn, xc, rfl⟩ := sh1 g11.1; obtain ⟨ya, yn, yc, rfl⟩ := sh1 g11.2; have F11 := Lib.hid (show tRat.at w11 [.bool (decide (p.1.1 < 0)), .slice xa xn xc, .slice ya yn yc] (encR (frInt p.1.1)) from RatAt.out g11); clear g11; have HB9 := fun (w9 : World) (h : More (w11.alloc (.cells #[.bool (decide (p.1.1 < 0)), .slice xa xn xc, .slice ya yn yc] 32)) w9) => bx3 w11.heap.size rfl h; have M11 := And.intro (HB3 w11 mC) (And.intro (HB4 w11 mC) (HB5 w11 mC)); have s11 : w1.heap.size < w11.heap.size ∧ w2.heap.size < w11.heap.size ∧ w3.heap.size < w11.heap.size := (And.intro (Nat.lt_of_lt_of_le s5.1 (More.size (show More w4 w11 from mC))) (And.intro (Nat.lt_of_lt_of_le s5.2.1 (More.size (show More w4 w11 from mC))) (Nat.lt_of_lt_of_le s5.2.2 (More.size (show More w4 w11 from mC)))))) | (go_at_call 10; (with_reducible refine (impl_LevelXL p p.1.2 _ (ed_in HP.out).1 (ed_in HP.out).2).mono ?_); rintro e w12 ⟨cs12, rfl, hb12, f12⟩; obtain ⟨Z, hZ⟩ : ∃ Z, Z = encR (lvlF p p.1.2) := ⟨_, rfl⟩; rw [lvl_ok HP.out, HGD.out]; rw [← hZ] at f12; have HZ := Lib.hid hZ; clear hZ; obtain ⟨a12, n12, c12, d12, m12, e12, rfl⟩ := sh_Rat (Ty.fresh_at f12); have F12 := Lib.hid (Ty.fresh_at f12); clear f12; have HB10 := fun (w9 : World) (h : More (w12.alloc (.cells #[.bool Z.1.1, .slice a12 n12 c12, .slice d12 m12 e12] 32)) w9) => bx3 w12.heap.size rfl h))
        have RB := fun (w9 : World) (h : More (w12.alloc (.cells #[.bool Z.1.1, .slice a12 n12 c12, .slice d12 m12 e12] 32)) w9) => And.intro (HB3 w9 (More.trans (show More (w1.alloc (.cells #[.int .i64 p.1.1, .int .i64 p.1.2, .int .i64 p.2.1.1, .int .i64 p.2.1.2, .int .i64 p.2.2.1, .bool p.2.2.2] 26)) (w12.alloc (.cells #[.bool Z.1.1, .slice a12 n12 c12, .slice d12 m12 e12] 32)) from mC) h)) (And.intro (HB9 w9 (More.trans (show More (w11.alloc (.cells #[.bool (decide (p.1.1 < 0)), .slice xa xn xc, .slice ya yn yc] 32)) (w12.alloc (.cells #[.bool Z.1.1, .slice a12 n12 c12, .slice d12 m12 e12] 32)) from mC) h)) (HB10 w9 h))
        refine wp_region_held_drew (S := (fun w' => More (w12.alloc (.cells #[.bool Z.1.1, .slice a12 n12 c12, .slice d12 m12 e12] 32)) w')) (by kernel_rfl) ?_ (fun hHeld => ?_)
        · first | exact More.refl _ | exact mC
        refine tk (v := ?_) 0 ⟨some 65, _, _, _, _, _⟩ rfl ?_ ?_
        rotate_left 2
        · (intro w hSw; (try dsimp only at hSw); go_simp; (try with_reducible rfl))
        (try simp only [Act.put, List.setIfInBounds_toArray, List.set_cons_zero, List.set_cons_succ])
        refine wpAnyH_ready (rs := [1]) (by kernel_rfl) (by simp) ?_
        refine AllReadyH.cons (o := ⟨some 66, _, _, _, _, _⟩) rfl (fun K hK => ?_) AllReadyH.nil
        go_simp
        (go_at_call 11; (with_reducible refine (impl_IsValidEdge p.1.1 p.1.2 p.2.1.1 p.2.1.2 p.2.2.1 p.2.2.2 _ (ed_in HP.out).1 (ed_in HP.out).2).mono ?_); rintro e w13 ⟨rfl, hb13⟩; rw [show edgeOk ((p.1.1, p.1.2), (p.2.1.1, p.2.1.2), p.2.2.1, p.2.2.2) = true from HP.out])
        refine hK.out _ _ ?_ (fun hHeld => ?_)
        · first | exact More.refl _ | exact mC
        clear hK K
        (try simp only [Act.put, List.setIfInBounds_toArray, List.set_cons_zero, List.set_cons_succ])
        refine tk (v := ?_) 2 ⟨some 67, _, _, _, _, _⟩ rfl ?_ ?_
        rotate_left 2
        · (intro w hSw; (try dsimp only at hSw); go_simp; (try with_reducible rfl))
        (try simp only [Act.put, List.setIfInBounds_toArray, List.set_cons_zero, List.set_cons_succ])
        refine tk (v := ?_) 3 ⟨some 68, _, _, _, _, _⟩ rfl ?_ ?_
        rotate_left 2
        · (intro w hSw; (try dsimp only at hSw); go_simp; (try with_reducible rfl))
        (try simp only [Act.put, List.setIfInBounds_toArray, List.set_cons_zero, List.set_cons_succ])
        refine tk (v := ?_) 4 ⟨some 69, _, _, _, _, _⟩ rfl ?_ ?_
        rotate_left 2
        · (intro w hSw; (try dsimp only at hSw); go_simp; (try with_reducible rfl))
        (try simp only [Act.put, List.setIfInBounds_toArray, List.set_cons_zero, List.set_cons_succ])
        refine tk (v := ?_) 6 ⟨some 71, _, _, _, _, _⟩ rfl ?_ ?_
        rotate_left 2
        · (intro w hSw; (try dsimp only at hSw); go_simp; (try with_reducible rfl))
        (try simp only [Act.put, List.setIfInBounds_toArray, List.set_cons_zero, List.set_cons_succ])
        refine tk (v := ?_) 7 ⟨some 72, _, _, _, _, _⟩ rfl ?_ ?_
        rotate_left 2
        · (intro w hSw; (try dsimp only at hSw); go_simp; (try with_reducible rfl))
        (try simp only [Act.put, List.setIfInBounds_toArray, List.set_cons_zero, List.set_cons_succ])
        refine tk (v := ?_) 8 ⟨some 73, _, _, _, _, _⟩ rfl ?_ ?_
        rotate_left 2
        · (intro w hSw; (try dsimp only at hSw); go_simp; (try with_reducible rfl))
        (try simp only [Act.put, List.setIfInBounds_toArray, List.set_cons_zero, List.set_cons_succ])
        refine wpAnyH_ready (rs := [5]) (by kernel_rfl) (by simp) ?_
        refine AllReadyH.cons (o := ⟨some 70, _, _, _, _, _⟩) rfl (fun K hK => ?_) AllReadyH.nil
        go_simp
        (go_at_call 8; (with_reducible refine (impl_HeightAtL p [.bool (decide (p.1.1 < 0)), .slice xa xn xc, .slice ya yn yc] (encR (frInt p.1.1)) _ (ed_in HP.out).1 (ed_in HP.out).2 (Ty.at_more F11.out mC) (wRat_int (ed_in HP.out).1.1)).mono ?_); rintro e w14 ⟨cs14, rfl, hb14, f14⟩; rw [height_a HP.out] at f14; obtain ⟨a14, n14, c14, d14, m14, e14, rfl⟩ := sh_Rat (Ty.fresh_at f14); have F14 := Lib.hid (Ty.fresh_at f14); clear f14)
        refine hK.out _ _ ?_ (fun hHeld => ?_)
        · first | exact More.refl _ | exact mC
        clear hK K
        (try simp only [Act.put, List.setIfInBounds_toArray, List.set_cons_zero, List.set_cons_succ])
        refine wpAnyH_ready (rs := [9]) (by kernel_rfl) (by simp) ?_
        refine AllReadyH.cons (o := ⟨some 74, _, _, _, _, _⟩) rfl (fun K hK => ?_) AllReadyH.nil
        go_simp
        (go_at_call 9; (with_reducible refine (impl_RatFromIntE p.1.2 _ (ed_in HP.out).1.2).mono ?_); rintro e w15 ⟨u15, v15, rfl, hb15, g15⟩; have F15 := Lib.hid (show tRat.at w15 [.bool (decide (p.1.2 < 0)), u15, v15] (encR (frInt p.1.2)) from RatAt.out g15); clear g15)
        refine hK.out _ _ ?_ (fun hHeld => ?_)
        · first | exact More.refl _ | exact mC
        clear hK K
        (try simp only [Act.put, List.setIfInBounds_toArray, List.set_cons_zero, List.set_cons_succ])
        refine wpAnyH_ready (rs := [10]) (by kernel_rfl) (by simp) ?_
        refine AllReadyH.cons (o := ⟨some 75, _, _, _, _, _⟩) rfl (fun K hK => ?_) AllReadyH.nil
        go_simp
        (go_at_call 7; (with_reducible refine (impl_RatEqual [.bool (encR (frInt p.1.2)).1.1, .slice a14 n14 c14, .slice d14 m14 e14] [.bool (decide (p.1.2 < 0)), u15, v15] (encR (frInt p.1.2)) (encR (frInt p.1.2)) _ (Ty.at_more F14.out hb15) F15.out (wRat_int (ed_in HP.out).1.2) (wRat_int (ed_in HP.out).1.2)).mono ?_); rintro e w16 ⟨rfl, hb16⟩; rw [show decide (encR (frInt p.1.2) = encR (frInt p.1.2)) = true from decide_eq_true rfl])
        refine hK.out _ _ ?_ (fun hHeld => ?_)
        · first | exact More.refl _ | exact mC
        clear hK K
        (try simp only [Act.put, List.setIfInBounds_toArray, List.set_cons_zero, List.set_cons_succ])
        refine tk (v := ?_) 11 ⟨some 76, _, _, _, _, _⟩ rfl ?_ ?_
        rotate_left 2
        · (intro w hSw; (try dsimp only at hSw); go_simp; (try with_reducible rfl))
        (try simp only [Act.put, List.setIfInBounds_toArray, List.set_cons_zero, List.set_cons_succ])
        refine tk (v := ?_) 12 ⟨some 77, _, _, _, _, _⟩ rfl ?_ ?_
        rotate_left 2
        · (intro w hSw; (try dsimp only at hSw); go_simp; (try with_reducible rfl))
        (try simp only [Act.put, List.setIfInBounds_toArray, List.set_cons_zero, List.set_cons_succ])
        refine tk (v := ?_) 13 ⟨some 78, _, _, _, _, _⟩ rfl ?_ ?_
        rotate_left 2
        · (intro w hSw; (try dsimp only at hSw); go_simp; (try with_reducible rfl))
        (try simp only [Act.put, List.setIfInBounds_toArray, List.set_cons_zero, List.set_cons_succ])
        refine tk (v := ?_) 14 ⟨some 79, _, _, _, _, _⟩ rfl ?_ ?_
        rotate_left 2
        · (intro w hSw; (try dsimp only at hSw); go_simp; (try with_reducible rfl))
        (try simp only [Act.put, List.setIfInBounds_toArray, List.set_cons_zero, List.set_cons_succ])
        refine tk (v := ?_) 15 ⟨some 80, _, _, _, _, _⟩ rfl ?_ ?_
        rotate_left 2
        · (intro w hSw; (try dsimp only at hSw); go_simp; (try with_reducible rfl))
        (try simp only [Act.put, List.setIfInBounds_toArray, List.set_cons_zero, List.set_cons_succ])
        refine tk (v := ?_) 16 ⟨some 81, _, _, _, _, _⟩ rfl ?_ ?_
        rotate_left 2
        · (intro w hSw; (try dsimp only at hSw); go_simp; (try with_reducible rfl))
        (try simp only [Act.put, List.setIfInBounds_toArray, List.set_cons_zero, List.set_cons_succ])
        refine tk (v := ?_) 17 ⟨some 82, _, _, _, _, _⟩ rfl ?_ ?_
        rotate_left 2
        · (intro w hSw; (try dsimp only at hSw); go_simp; (try with_reducible rfl))
        (try simp only [Act.put, List.setIfInBounds_toArray, List.set_cons_zero, List.set_cons_succ])
        refine wpAnyH_ready (rs := [18]) (by kernel_rfl) (by simp) ?_
        refine AllReadyH.cons (o := ⟨some 83, _, _, _, _, _⟩) rfl (fun K hK => ?_) AllReadyH.nil
        go_simp
        (go_at_call 9; (with_reducible refine (impl_RatFromIntE p.2.1.1 _ (ed_in HP.out).2.1).mono ?_); rintro e w17 ⟨u17, v17, rfl, hb17, g17⟩; have F17 := Lib.hid (show tRat.at w17 [.bool (decide (p.2.1.1 < 0)), u17, v17] (encR (frInt p.2.1.1)) from RatAt.out g17); clear g17)
        refine hK.out _ _ ?_ (fun hHeld => ?_)
        · first | exact More.refl _ | exact mC
        clear hK K
        (try simp only [Act.put, List.setIfInBounds_toArray, List.set_cons_zero, List.set_cons_succ])
        refine wpAnyH_ready (rs := [19]) (by kernel_rfl) (by simp) ?_
        refine AllReadyH.cons (o := ⟨some 84, _, _, _, _, _⟩) rfl (fun K hK => ?_) AllReadyH.nil
        go_simp
        (go_at_call 12; (with_reducible refine (impl_SpansX p.1.1 p.1.2 p.2.1.1 p.2.1.2 p.2.2.1 p.2.2.2 [.bool (decide (p.1.1 < 0)), .slice xa xn xc, .slice ya yn yc] (encR (frInt p.1.1)) [.bool (decide (p.2.1.1 < 0)), u17, v17] (encR (frInt p.2.1.1)) _ (ed_in HP.out).1 (ed_in HP.out).2 (Ty.at_more F11.out mC) (wRat_int (ed_in HP.out).1.1) F17.out (wRat_int (ed_in HP.out).2.1)).mono ?_); rintro e w18 ⟨rfl, hb18⟩; rw [show spanB ((p.1.1, p.1.2), (p.2.1.1, p.2.1.2), p.2.2.1, p.2.2.2) (encR (frInt p.1.1)) (encR (frInt p.2.1.1)) = true from spans_ab HP.out])
        refine hK.out _ _ ?_ (fun hHeld => ?_)
        · first | exact More.refl _ | exact mC
        clear hK K
        (try simp only [Act.put, List.setIfInBounds_toArray, List.set_cons_zero, List.set_cons_succ])
        refine tk (v := ?_) 20 ⟨some 85, _, _, _, _, _⟩ rfl ?_ ?_
        rotate_left 2
        · (intro w hSw; (try dsimp only at hSw); go_simp; (try with_reducible rfl))
        (try simp only [Act.put, List.setIfInBounds_toArray, List.set_cons_zero, List.set_cons_succ])
        refine tk (v := ?_) 21 ⟨some 86, _, _, _, _, _⟩ rfl ?_ ?_
        rotate_left 2
        · (intro w hSw; (try dsimp only at hSw); go_simp; (try with_reducible rfl))
        (try simp only [Act.put, List.setIfInBounds_toArray, List.set_cons_zero, List.set_cons_succ])
        refine tk (v := ?_) 22 ⟨some 87, _, _, _, _, _⟩ rfl ?_ ?_
        rotate_left 2
        · (intro w hSw; (try dsimp only at hSw); go_simp; (try with_reducible rfl))
        (try simp only [Act.put, List.setIfInBounds_toArray, List.set_cons_zero, List.set_cons_succ])
        refine tk (v := ?_) 23 ⟨some 88, _, _, _, _, _⟩ rfl ?_ ?_
        rotate_left 2
        · (intro w hSw; (try dsimp only at hSw); go_simp; (try with_reducible rfl))
        (try simp only [Act.put, List.setIfInBounds_toArray, List.set_cons_zero, List.set_cons_succ])
        refine tk (v := ?_) 24 ⟨some 89, _, _, _, _, _⟩ rfl ?_ ?_
        rotate_left 2
        · (intro w hSw; (try dsimp only at hSw); go_simp; (try with_reducible rfl))
        (try simp only [Act.put, List.setIfInBounds_toArray, List.set_cons_zero, List.set_cons_succ])
        refine tk (v := ?_) 25 ⟨some 90, _, _, _, _, _⟩ rfl ?_ ?_
        rotate_left 2
        · (intro w hSw; (try dsimp only at hSw); go_simp; (try with_reducible rfl))
        (try simp only [Act.put, List.setIfInBounds_toArray, List.set_cons_zero, List.set_cons_succ])
        refine tk (v := ?_) 26 ⟨some 91, _, _, _, _, _⟩ rfl ?_ ?_
        rotate_left 2
        · (intro w hSw; (try dsimp only at hSw); go_simp; (try with_reducible rfl))
        (try simp only [Act.put, List.setIfInBounds_toArray, List.set_cons_zero, List.set_cons_succ])
        refine tk (v := ?_) 27 ⟨some 92, _, _, _, _, _⟩ rfl ?_ ?_
        rotate_left 2
        · (intro w hSw; (try dsimp only at hSw); go_simp; (try with_reducible rfl))
        (try simp only [Act.put, List.setIfInBounds_toArray, List.set_cons_zero, List.set_cons_succ])
        refine tk (v := ?_) 28 ⟨some 93, _, _, _, _, _⟩ rfl ?_ ?_
        rotate_left 2
        · (intro w hSw; (try dsimp only at hSw); go_simp; (try with_reducible rfl))
        (try simp only [Act.put, List.setIfInBounds_toArray, List.set_cons_zero, List.set_cons_succ])
        refine tk (v := ?_) 29 ⟨some 94, _, _, _, _, _⟩ rfl ?_ ?_
        rotate_left 2
        · (intro w hSw; (try dsimp only at hSw); go_simp; (try with_reducible rfl))
        (try simp only [Act.put, List.setIfInBounds_toArray, List.set_cons_zero, List.set_cons_succ])
        refine tk (v := ?_) 30 ⟨some 95, _, _, _, _, _⟩ rfl ?_ ?_
        rotate_left 2
        · (intro w hSw; (try dsimp only at hSw); go_simp; (try with_reducible rfl))
        (try simp only [Act.put, List.setIfInBounds_toArray, List.set_cons_zero, List.set_cons_succ])
        refine tk (v := ?_) 31 ⟨some 96, _, _, _, _, _⟩ rfl ?_ ?_
        rotate_left 2
        · (intro w hSw; (try dsimp only at hSw); go_simp; (try with_reducible rfl))
        (try simp only [Act.put, List.setIfInBounds_toArray, List.set_cons_zero, List.set_cons_succ])
        refine tk (v := ?_) 32 ⟨some 97, _, _, _, _, _⟩ rfl ?_ ?_
        rotate_left 2
        · (intro w hSw; (try dsimp only at hSw); go_simp; (try with_reducible rfl))
        (try simp only [Act.put, List.setIfInBounds_toArray, List.set_cons_zero, List.set_cons_succ])
        refine tk (v := ?_) 33 ⟨some 98, _, _, _, _, _⟩ rfl ?_ ?_
        rotate_left 2
        · (intro w hSw; (try dsimp only at hSw); go_simp; (try with_reducible rfl))
        (try simp only [Act.put, List.setIfInBounds_toArray, List.set_cons_zero, List.set_cons_succ])
        refine tk (v := ?_) 34 ⟨some 99, _, _, _, _, _⟩ rfl ?_ ?_
        rotate_left 2
        · (intro w hSw; (try dsimp only at hSw); go_simp; (try with_reducible rfl))
        (try simp only [Act.put, List.setIfInBounds_toArray, List.set_cons_zero, List.set_cons_succ])
        refine tk (v := ?_) 35 ⟨some 100, _, _, _, _, _⟩ rfl ?_ ?_
        rotate_left 2
        · (intro w hSw; (try dsimp only at hSw); go_simp; (try with_reducible rfl))
        (try simp only [Act.put, List.setIfInBounds_toArray, List.set_cons_zero, List.set_cons_succ])
        refine tk0 36 ⟨some 101, _, _, _, _, _⟩ rfl ?_
        (try simp only [Act.put, List.setIfInBounds_toArray, List.set_cons_zero, List.set_cons_succ])
        refine tk0 37 ⟨some 102, _, _, _, _, _⟩ rfl ?_
        (try simp only [Act.put, List.setIfInBounds_toArray, List.set_cons_zero, List.set_cons_succ])
        refine tk0 38 ⟨some 103, _, _, _, _, _⟩ rfl ?_
        (try simp only [Act.put, List.setIfInBounds_toArray, List.set_cons_zero, List.set_cons_succ])
        refine tk (v := ?_) 39 ⟨some 104, _, _, _, _, _⟩ rfl ?_ ?_
        rotate_left 2
        · (intro w hSw; (try dsimp only at hSw); go_simp; (try with_reducible rfl))
        (try simp only [Act.put, List.setIfInBounds_toArray, List.set_cons_zero, List.set_cons_succ])
        refine tk (v := ?_) 40 ⟨some 105, _, _, _, _, _⟩ rfl ?_ ?_
        rotate_left 2
        · (intro w hSw; (try dsimp only at hSw); go_simp; (try with_reducible rfl))
        (try simp only [Act.put, List.setIfInBounds_toArray, List.set_cons_zero, List.set_cons_succ])
        refine tk (v := ?_) 41 ⟨some 2, _, _, _, _, _⟩ rfl ?_ ?_
        rotate_left 2
        · (intro w hSw; (try dsimp only at hSw); go_simp; (try with_reducible rfl))
        (try simp only [Act.put, List.setIfInBounds_toArray, List.set_cons_zero, List.set_cons_succ])
        refine wpAnyH_done (by kernel_rfl) ?_ _
        go_wp2_with fail
        go_ret
        exact ⟨rfl, mC⟩
  | false =>
    refine wp_region_held_drew (S := (fun w' => More (w4.alloc (.cells #[.bool X.1.1, .slice a4 n4 c4, .slice d4 m4 e4] 32)) w')) (by kernel_rfl) ?_ (fun hHeld => ?_)
    · first | exact More.refl _ | exact mC
    refine tk (v := ?_) 0 ⟨some 31, _, _, _, _, _⟩ rfl ?_ ?_
    rotate_left 2
    · (intro w hSw; (try dsimp only at hSw); go_simp; (try with_reducible rfl))
    (try simp only [Act.put, List.setIfInBounds_toArray, List.set_cons_zero, List.set_cons_succ])
    refine tk (v := ?_) 1 ⟨some 32, _, _, _, _, _⟩ rfl ?_ ?_
    rotate_left 2
    · (intro w hSw; (try dsimp only at hSw); go_simp; (try with_reducible rfl))
    (try simp only [Act.put, List.setIfInBounds_toArray, List.set_cons_zero, List.set_cons_succ])
    refine tk (v := ?_) 2 ⟨some 33, _, _, _, _, _⟩ rfl ?_ ?_
    rotate_left 2
    · (intro w hSw; (try dsimp only at hSw); go_simp; (try with_reducible rfl))
    (try simp only [Act.put, List.setIfInBounds_toArray, List.set_cons_zero, List.set_cons_succ])
    refine tk (v := ?_) 3 ⟨some 34, _, _, _, _, _⟩ rfl ?_ ?_
    rotate_left 2
    · (intro w hSw; (try dsimp only at hSw); go_simp; (try with_reducible rfl))
    (try simp only [Act.put, List.setIfInBounds_toArray, List.set_cons_zero, List.set_cons_succ])
    refine tk (v := ?_) 4 ⟨some 35, _, _, _, _, _⟩ rfl ?_ ?_
    rotate_left 2
    · (intro w hSw; (try dsimp only at hSw); go_simp; (try with_reducible rfl))
    (try simp only [Act.put, List.setIfInBounds_toArray, List.set_cons_zero, List.set_cons_succ])
    refine tk (v := ?_) 5 ⟨some 36, _, _, _, _, _⟩ rfl ?_ ?_
    rotate_left 2
    · (intro w hSw; (try dsimp only at hSw); go_simp; (try with_reducible rfl))
    (try simp only [Act.put, List.setIfInBounds_toArray, List.set_cons_zero, List.set_cons_succ])
    refine wpAnyH_ready (rs := [6]) (by kernel_rfl) (by simp) ?_
    refine AllReadyH.cons (o := ⟨some 37, _, _, _, _, _⟩) rfl (fun K hK => ?_) AllReadyH.nil
    go_simp
    (go_at_call 7; (with_reducible refine (impl_RatEqual [.bool X.1.1, .slice a3 n3 c3, .slice d3 m3 e3] [.bool X.1.1, .slice a4 n4 c4, .slice d4 m4 e4] X X _ (Ty.at_more F3.out mC) (Ty.at_more F4.out mC) WX.out WX.out).mono ?_); rintro e w5 ⟨rfl, hb5⟩; rw [show decide (X = X) = true from decide_eq_true rfl])
    refine hK.out _ _ ?_ (fun hHeld => ?_)
    · first | exact More.refl _ | exact mC
    clear hK K
    (try simp only [Act.put, List.setIfInBounds_toArray, List.set_cons_zero, List.set_cons_succ])
    refine tk (v := ?_) 7 ⟨some 38, _, _, _, _, _⟩ rfl ?_ ?_
    rotate_left 2
    · (intro w hSw; (try dsimp only at hSw); go_simp; (try with_reducible rfl))
    (try simp only [Act.put, List.setIfInBounds_toArray, List.set_cons_zero, List.set_cons_succ])
    refine tk (v := ?_) 8 ⟨some 39, _, _, _, _, _⟩ rfl ?_ ?_
    rotate_left 2
    · (intro w hSw; (try dsimp only at hSw); go_simp; (try with_reducible rfl))
    (try simp only [Act.put, List.setIfInBounds_toArray, List.set_cons_zero, List.set_cons_succ])
    refine tk (v := ?_) 9 ⟨some 40, _, _, _, _, _⟩ rfl ?_ ?_
    rotate_left 2
    · (intro w hSw; (try dsimp only at hSw); go_simp; (try with_reducible rfl))
    (try simp only [Act.put, List.setIfInBounds_toArray, List.set_cons_zero, List.set_cons_succ])
    refine tk (v := ?_) 10 ⟨some 41, _, _, _, _, _⟩ rfl ?_ ?_
    rotate_left 2
    · (intro w hSw; (try dsimp only at hSw); go_simp; (try with_reducible rfl))
    (try simp only [Act.put, List.setIfInBounds_toArray, List.set_cons_zero, List.set_cons_succ])
    refine tk (v := ?_) 11 ⟨some 42, _, _, _, _, _⟩ rfl ?_ ?_
    rotate_left 2
    · (intro w hSw; (try dsimp only at hSw); go_simp; (try with_reducible rfl))
    (try simp only [Act.put, List.setIfInBounds_toArray, List.set_cons_zero, List.set_cons_succ])
    refine tk0 12 ⟨some 43, _, _, _, _, _⟩ rfl ?_
    (try simp only [Act.put, List.setIfInBounds_toArray, List.set_cons_zero, List.set_cons_succ])
    refine tk0 13 ⟨some 44, _, _, _, _, _⟩ rfl ?_
    (try simp only [Act.put, List.setIfInBounds_toArray, List.set_cons_zero, List.set_cons_succ])
    refine tk0 14 ⟨some 45, _, _, _, _, _⟩ rfl ?_
    (try simp only [Act.put, List.setIfInBounds_toArray, List.set_cons_zero, List.set_cons_succ])
    refine tk0 15 ⟨some 46, _, _, _, _, _⟩ rfl ?_
    (try simp only [Act.put, List.setIfInBounds_toArray, List.set_cons_zero, List.set_cons_succ])
    refine tk0 16 ⟨some 47, _, _, _, _, _⟩ rfl ?_
    (try simp only [Act.put, List.setIfInBounds_toArray, List.set_cons_zero, List.set_cons_succ])
    refine tk0 17 ⟨some 48, _, _, _, _, _⟩ rfl ?_
    (try simp only [Act.put, List.setIfInBounds_toArray, List.set_cons_zero, List.set_cons_succ])
    refine tk0 18 ⟨some 49, _, _, _, _, _⟩ rfl ?_
    (try simp only [Act.put, List.setIfInBounds_toArray, List.set_cons_zero, List.set_cons_succ])
    refine tk0 19 ⟨some 50, _, _, _, _, _⟩ rfl ?_
    (try simp only [Act.put, List.setIfInBounds_toArray, List.set_cons_zero, List.set_cons_succ])
    refine tk (v := ?_) 20 ⟨some 51, _, _, _, _, _⟩ rfl ?_ ?_
    rotate_left 2
    · (intro w hSw; (try dsimp only at hSw); go_simp; (try with_reducible rfl))
    (try simp only [Act.put, List.setIfInBounds_toArray, List.set_cons_zero, List.set_cons_succ])
    refine tk (v := ?_) 21 ⟨some 52, _, _, _, _, _⟩ rfl ?_ ?_
    rotate_left 2
    · (intro w hSw; (try dsimp only at hSw); go_simp; (try with_reducible rfl))
    (try simp only [Act.put, List.setIfInBounds_toArray, List.set_cons_zero, List.set_cons_succ])
    refine wpAnyH_done (by kernel_rfl) ?_ _
    clear RB
    have M8 := HB3 w5 mC
    rcases Bool.eq_false_or_eq_true (decide (p.1.2 ≠ p.2.1.2)) with hgd | hgd
    · skip
      have HGD := Lib.hid hgd
      have hn0 : ¬ p.1.2 = p.2.1.2 := of_decide_eq_true hgd
      have hne : (p.1.2 == p.2.1.2) = false := beq_eq_false_iff_ne.2 hn0
      have hne2 : (p.1.2 != p.2.1.2) = true := by unfold bne; rw [hne]; rfl
      have hne3 : decide (p.1.2 = p.2.1.2) = false := decide_eq_false hn0
      clear hgd
      go_wp2_with (first | (go_at_call 9; (with_reducible refine (impl_RatFromIntE p.1.1 _ (ed_in HP.out).1.1).mono ?_); rintro e w11 ⟨u11, v11, rfl, hb11, g11⟩; obtain ⟨xa, xn, xc, rfl⟩ := sh1 g11.1; obtain ⟨ya, yn, yc, rfl⟩ := sh1 g11.2; have F11 := Lib.hid (show tRat.at w11 [.bool (decide (p.1.1 < 0)), .slice xa xn xc, .slice ya yn yc] (encR (frInt p.1.1)) from RatAt.out g11); clear g11; have HB9 := fun (w9 : World) (h : More (w11.alloc (.cells #[.bool (decide (p.1.1 < 0)), .slice xa xn xc, .slice ya yn yc] 32)) w9) => bx3 w11.heap.size rfl h; have M11 := And.intro (HB3 w11 mC) (And.intro (HB4 w11 mC) (HB5 w11 mC)); have s11 : w1.heap.size < w11.heap.size ∧ w2.heap.size < w11.heap.size ∧ w3.heap.size < w11.heap.size := (And.intro (Nat.lt_of_lt_of_le s5.1 (More.size (show More w4 w11 from mC))) (And.intro (Nat.lt_of_lt_of_le s5.2.1 (More.size (show More w4 w11 from mC))) (Nat.lt_of_lt_of_le s5.2.2 (More.size (show More w4 w11 from mC)))))) | (go_at_call 10; (with_reducible refine (impl_LevelXL p p.1.2 _ (ed_in HP.out).1 (ed_in HP.out).2).mono ?_); rintro e w12 ⟨cs12, rfl, hb12, f12⟩; obtain ⟨Z, hZ⟩ : ∃ Z, Z = encR (lvlF p p.1.2) := ⟨_, rfl⟩; rw [lvl_ok HP.out, HGD.out]; rw [← hZ] at f12; have HZ := Lib.hid hZ; clear hZ; obtain ⟨a12, n12, c12, d12, m12, e12, rfl⟩ := sh_Rat (Ty.fresh_at f12); have F12 := Lib.hid (Ty.fresh_at f12); clear f12; have HB10 := fun (w9 : World) (h : More (w12.alloc (.cells #[.bool Z.1.1, .slice a12 n12 c12, .slice d12 m12 e12] 32)) w9) => bx3 w12.heap.size rfl h))
      have RB := fun (w9 : World) (h : More (w12.alloc (.cells #[.bool Z.1.1, .slice a12 n12 c12, .slice d12 m12 e12] 32)) w9) => And.intro (HB3 w9 (More.trans (show More (w1.alloc (.cells #[.int .i64 p.1.1, .int .i64 p.1.2, .int .i64 p.2.1.1, .int .i64 p.2.1.2, .int .i64 p.2.2.1, .bool p.2.2.2] 26)) (w12.alloc (.cells #[.bool Z.1.1, .slice a12 n12 c12, .slice d12 m12 e12] 32)) from mC) h)) (And.intro (HB9 w9 (More.trans (show More (w11.alloc (.cells #[.bool (decide (p.1.1 < 0)), .slice xa xn xc, .slice ya yn yc] 32)) (w12.alloc (.cells #[.bool Z.1.1, .slice a12 n12 c12, .slice d12 m12 e12] 32)) from mC) h)) (HB10 w9 h))
      have HZA : Hid (Z = encR (frInt p.1.1)) := Lib.hid (by rw [HZ.out, lvl_val HP.out (by rw [lvl_ok HP.out, HGD.out])])
      have WZ : Hid (wRat Z ≤ 1048576) := Lib.hid (by rw [HZA.out]; exact wRat_int (ed_in HP.out).1.1)
      go_region_held3 (fun w' => More (w12.alloc (.cells #[.bool Z.1.1, .slice a12 n12 c12, .slice d12 m12 e12] 32)) w') (first | exact More.refl _ | exact mC) (first | (go_at_call 11; (with_reducible refine (impl_IsValidEdge p.1.1 p.1.2 p.2.1.1 p.2.1.2 p.2.2.1 p.2.2.2 _ (ed_in HP.out).1 (ed_in HP.out).2).mono ?_); rintro e w13 ⟨rfl, hb13⟩; rw [show edgeOk ((p.1.1, p.1.2), (p.2.1.1, p.2.1.2), p.2.2.1, p.2.2.2) = true from HP.out]) | (go_at_call 8; (with_reducible refine (impl_HeightAtL p [.bool (decide (p.1.1 < 0)), .slice xa xn xc, .slice ya yn yc] (encR (frInt p.1.1)) _ (ed_in HP.out).1 (ed_in HP.out).2 (Ty.at_more F11.out mC) (wRat_int (ed_in HP.out).1.1)).mono ?_); rintro e w14 ⟨cs14, rfl, hb14, f14⟩; rw [height_a HP.out] at f14; obtain ⟨a14, n14, c14, d14, m14, e14, rfl⟩ := sh_Rat (Ty.fresh_at f14); have F14 := Lib.hid (Ty.fresh_at f14); clear f14) | (go_at_call 9; (with_reducible refine (impl_RatFromIntE p.1.2 _ (ed_in HP.out).1.2).mono ?_); rintro e w15 ⟨u15, v15, rfl, hb15, g15⟩; have F15 := Lib.hid (show tRat.at w15 [.bool (decide (p.1.2 < 0)), u15, v15] (encR (frInt p.1.2)) from RatAt.out g15); clear g15) | (go_at_call 7; (with_reducible refine (impl_RatEqual [.bool (encR (frInt p.1.2)).1.1, .slice a14 n14 c14, .slice d14 m14 e14] [.bool (decide (p.1.2 < 0)), u15, v15] (encR (frInt p.1.2)) (encR (frInt p.1.2)) _ (Ty.at_more F14.out hb15) F15.out (wRat_int (ed_in HP.out).1.2) (wRat_int (ed_in HP.out).1.2)).mono ?_); rintro e w16 ⟨rfl, hb16⟩; rw [show decide (encR (frInt p.1.2) = encR (frInt p.1.2)) = true from decide_eq_true rfl]) | (go_at_call 9; (with_reducible refine (impl_RatFromIntE p.2.1.1 _ (ed_in HP.out).2.1).mono ?_); rintro e w17 ⟨u17, v17, rfl, hb17, g17⟩; have F17 := Lib.hid (show tRat.at w17 [.bool (decide (p.2.1.1 < 0)), u17, v17] (encR (frInt p.2.1.1)) from RatAt.out g17); clear g17) | (go_at_call 12; (with_reducible refine (impl_SpansX p.1.1 p.1.2 p.2.1.1 p.2.1.2 p.2.2.1 p.2.2.2 [.bool (decide (p.1.1 < 0)), .slice xa xn xc, .slice ya yn yc] (encR (frInt p.1.1)) [.bool (decide (p.2.1.1 < 0)), u17, v17] (encR (frInt p.2.1.1)) _ (ed_in HP.out).1 (ed_in HP.out).2 (Ty.at_more F11.out mC) (wRat_int (ed_in HP.out).1.1) F17.out (wRat_int (ed_in HP.out).2.1)).mono ?_); rintro e w18 ⟨rfl, hb18⟩; rw [show spanB ((p.1.1, p.1.2), (p.2.1.1, p.2.1.2), p.2.2.1, p.2.2.2) (encR (frInt p.1.1)) (encR (frInt p.2.1.1)) = true from spans_ab HP.out]) | (go_at_call 7; (with_reducible refine (impl_RatEqual [.bool Z.1.1, .slice a12 n12 c12, .slice d12 m12 e12] [.bool (decide (p.1.1 < 0)), .slice xa xn xc, .slice ya yn yc] Z (encR (frInt p.1.1)) _ (Ty.at_more F12.out mC) (Ty.at_more F11.out mC) WZ.out (wRat_int (ed_in HP.out).1.1)).mono ?_); rintro e w19 ⟨rfl, hb19⟩; rw [show decide (Z = encR (frInt p.1.1)) = true from decide_eq_true HZA.out]))
      all_goals
        go_wp2_with fail
        go_ret
        exact ⟨rfl, mC⟩
    · skip
      have HGD := Lib.hid hgd
      have hn0 : p.1.2 = p.2.1.2 := Classical.byContradiction (of_decide_eq_false hgd)
      have hne : (p.1.2 == p.2.1.2) = true := by rw [hn0]; exact beq_self_eq_true _
      have hne2 : (p.1.2 != p.2.1.2) = false := by unfold bne; rw [hne]; rfl
      have hne3 : decide (p.1.2 = p.2.1.2) = true := decide_eq_true hn0
      clear hn0
      clear hgd
      go_wp2_with (first | (go_at_call 9; (with_reducible refine (impl_RatFromIntE p.1.1 _ (ed_in HP.out).1.1).mono ?_); rintro e w11 ⟨u11, v11, rfl, hb11, g11⟩; obtain ⟨xa, xn, xc, rfl⟩ := sh1 g11.1; obtain ⟨ya, yn, yc, rfl⟩ := sh1 g11.2; have F11 := Lib.hid (show tRat.at w11 [.bool (decide (p.1.1 < 0)), .slice xa xn xc, .slice ya yn yc] (encR (frInt p.1.1)) from RatAt.out g11); clear g11; have HB9 := fun (w9 : World) (h : More (w11.alloc (.cells #[.bool (decide (p.1.1 < 0)), .slice xa xn xc, .slice ya yn yc] 32)) w9) => bx3 w11.heap.size rfl h; have M11 := And.intro (HB3 w11 mC) (And.intro (HB4 w11 mC) (HB5 w11 mC)); have s11 : w1.heap.size < w11.heap.size ∧ w2.heap.size < w11.heap.size ∧ w3.heap.size < w11.heap.size := (And.intro (Nat.lt_of_lt_of_le s5.1 (More.size (show More w4 w11 from mC))) (And.intro (Nat.lt_of_lt_of_le s5.2.1 (More.size (show More w4 w11 from mC))) (Nat.lt_of_lt_of_le s5.2.2 (More.size (show More w4 w11 from mC)))))) | (go_at_call 10; (with_reducible refine (impl_LevelXL p p.1.2 _ (ed_in HP.out).1 (ed_in HP.out).2).mono ?_); rintro e w12 ⟨cs12, rfl, hb12, f12⟩; obtain ⟨Z, hZ⟩ : ∃ Z, Z = encR (lvlF p p.1.2) := ⟨_, rfl⟩; rw [lvl_ok HP.out, HGD.out]; rw [← hZ] at f12; have HZ := Lib.hid hZ; clear hZ; obtain ⟨a12, n12, c12, d12, m12, e12, rfl⟩ := sh_Rat (Ty.fresh_at f12); have F12 := Lib.hid (Ty.fresh_at f12); clear f12; have HB10 := fun (w9 : World) (h : More (w12.alloc (.cells #[.bool Z.1.1, .slice a12 n12 c12, .slice d12 m12 e12] 32)) w9) => bx3 w12.heap.size rfl h))
      have RB := fun (w9 : World) (h : More (w12.alloc (.cells #[.bool Z.1.1, .slice a12 n12 c12, .slice d12 m12 e12] 32)) w9) => And.intro (HB3 w9 (More.trans (show More (w1.alloc (.cells #[.int .i64 p.1.1, .int .i64 p.1.2, .int .i64 p.2.1.1, .int .i64 p.2.1.2, .int .i64 p.2.2.1, .bool p.2.2.2] 26)) (w12.alloc (.cells #[.bool Z.1.1, .slice a12 n12 c12, .slice d12 m12 e12] 32)) from mC) h)) (And.intro (HB9 w9 (More.trans (show More (w11.alloc (.cells #[.bool (decide (p.1.1 < 0)), .slice xa xn xc, .slice ya yn yc] 32)) (w12.alloc (.cells #[.bool Z.1.1, .slice a12 n12 c12, .slice d12 m12 e12] 32)) from mC) h)) (HB10 w9 h))
      refine wp_region_held_drew (S := (fun w' => More (w12.alloc (.cells #[.bool Z.1.1, .slice a12 n12 c12, .slice d12 m12 e12] 32)) w')) (by kernel_rfl) ?_ (fun hHeld => ?_)
      · first | exact More.refl _ | exact mC
      refine tk (v := ?_) 0 ⟨some 65, _, _, _, _, _⟩ rfl ?_ ?_
      rotate_left 2
      · (intro w hSw; (try dsimp only at hSw); go_simp; (try with_reducible rfl))
      (try simp only [Act.put, List.setIfInBounds_toArray, List.set_cons_zero, List.set_cons_succ])
      refine wpAnyH_ready (rs := [1]) (by kernel_rfl) (by simp) ?_
      refine AllReadyH.cons (o := ⟨some 66, _, _, _, _, _⟩) rfl (fun K hK => ?_) AllReadyH.nil
      go_simp
      (go_at_call 11; (with_reducible refine (impl_IsValidEdge p.1.1 p.1.2 p.2.1.1 p.2.1.2 p.2.2.1 p.2.2.2 _ (ed_in HP.out).1 (ed_in HP.out).2).mono ?_); rintro e w13 ⟨rfl, hb13⟩; rw [show edgeOk ((p.1.1, p.1.2), (p.2.1.1, p.2.1.2), p.2.2.1, p.2.2.2) = true from HP.out])
      refine hK.out _ _ ?_ (fun hHeld => ?_)
      · first | exact More.refl _ | exact mC
      clear hK K
      (try simp only [Act.put, List.setIfInBounds_toArray, List.set_cons_zero, List.set_cons_succ])
      refine tk (v := ?_) 2 ⟨some 67, _, _, _, _, _⟩ rfl ?_ ?_
      rotate_left 2
      · (intro w hSw; (try dsimp only at hSw); go_simp; (try with_reducible rfl))
      (try simp only [Act.put, List.setIfInBounds_toArray, List.set_cons_zero, List.set_cons_succ])
      refine tk (v := ?_) 3 ⟨some 68, _, _, _, _, _⟩ rfl ?_ ?_
      rotate_left 2
      · (intro w hSw; (try dsimp only at hSw); go_simp; (try with_reducible rfl))
      (try simp only [Act.put, List.setIfInBounds_toArray, List.set_cons_zero, List.set_cons_succ])
      refine tk (v := ?_) 4 ⟨some 69, _, _, _, _, _⟩ rfl ?_ ?_
      rotate_left 2
      · (intro w hSw; (try dsimp only at hSw); go_simp; (try with_reducible rfl))
      (try simp only [Act.put, List.setIfInBounds_toArray, List.set_cons_zero, List.set_cons_succ])
      refine tk (v := ?_) 6 ⟨some 71, _, _, _, _, _⟩ rfl ?_ ?_
      rotate_left 2
      · (intro w hSw; (try dsimp only at hSw); go_simp; (try with_reducible rfl))
      (try simp only [Act.put, List.setIfInBounds_toArray, List.set_cons_zero, List.set_cons_succ])
      refine tk (v := ?_) 7 ⟨some 72, _, _, _, _, _⟩ rfl ?_ ?_
      rotate_left 2
      · (intro w hSw; (try dsimp only at hSw); go_simp; (try with_reducible rfl))
      (try simp only [Act.put, List.setIfInBounds_toArray, List.set_cons_zero, List.set_cons_succ])
      refine tk (v := ?_) 8 ⟨some 73, _, _, _, _, _⟩ rfl ?_ ?_
      rotate_left 2
      · (intro w hSw; (try dsimp only at hSw); go_simp; (try with_reducible rfl))
      (try simp only [Act.put, List.setIfInBounds_toArray, List.set_cons_zero, List.set_cons_succ])
      refine wpAnyH_ready (rs := [5]) (by kernel_rfl) (by simp) ?_
      refine AllReadyH.cons (o := ⟨some 70, _, _, _, _, _⟩) rfl (fun K hK => ?_) AllReadyH.nil
      go_simp
      (go_at_call 8; (with_reducible refine (impl_HeightAtL p [.bool (decide (p.1.1 < 0)), .slice xa xn xc, .slice ya yn yc] (encR (frInt p.1.1)) _ (ed_in HP.out).1 (ed_in HP.out).2 (Ty.at_more F11.out mC) (wRat_int (ed_in HP.out).1.1)).mono ?_); rintro e w14 ⟨cs14, rfl, hb14, f14⟩; rw [height_a HP.out] at f14; obtain ⟨a14, n14, c14, d14, m14, e14, rfl⟩ := sh_Rat (Ty.fresh_at f14); have F14 := Lib.hid (Ty.fresh_at f14); clear f14)
      refine hK.out _ _ ?_ (fun hHeld => ?_)
      · first | exact More.refl _ | exact mC
      clear hK K
      (try simp only [Act.put, List.setIfInBounds_toArray, List.set_cons_zero, List.set_cons_succ])
      refine wpAnyH_ready (rs := [9]) (by kernel_rfl) (by simp) ?_
      refine AllReadyH.cons (o := ⟨some 74, _, _, _, _, _⟩) rfl (fun K hK => ?_) AllReadyH.nil
      go_simp
      (go_at_call 9; (with_reducible refine (impl_RatFromIntE p.1.2 _ (ed_in HP.out).1.2).mono ?_); rintro e w15 ⟨u15, v15, rfl, hb15, g15⟩; have F15 := Lib.hid (show tRat.at w15 [.bool (decide (p.1.2 < 0)), u15, v15] (encR (frInt p.1.2)) from RatAt.out g15); clear g15)
      refine hK.out _ _ ?_ (fun hHeld => ?_)
      · first | exact More.refl _ | exact mC
      clear hK K
      (try simp only [Act.put, List.setIfInBounds_toArray, List.set_cons_zero, List.set_cons_succ])
      refine wpAnyH_ready (rs := [10]) (by kernel_rfl) (by simp) ?_
      refine AllReadyH.cons (o := ⟨some 75, _, _, _, _, _⟩) rfl (fun K hK => ?_) AllReadyH.nil
      go_simp
      (go_at_call 7; (with_reducible refine (impl_RatEqual [.bool (encR (frInt p.1.2)).1.1, .slice a14 n14 c14, .slice d14 m14 e14] [.bool (decide (p.1.2 < 0)), u15, v15] (encR (frInt p.1.2)) (encR (frInt p.1.2)) _ (Ty.at_more F14.out hb15) F15.out (wRat_int (ed_in HP.out).1.2) (wRat_int (ed_in HP.out).1.2)).mono ?_); rintro e w16 ⟨rfl, hb16⟩; rw [show decide (encR (frInt p.1.2) = encR (frInt p.1.2)) = true from decide_eq_true rfl])
      refine hK.out _ _ ?_ (fun hHeld => ?_)
      · first | exact More.refl _ | exact mC
      clear hK K
      (try simp only [Act.put, List.setIfInBounds_toArray, List.set_cons_zero, List.set_cons_succ])
      refine tk (v := ?_) 11 ⟨some 76, _, _, _, _, _⟩ rfl ?_ ?_
      rotate_left 2
      · (intro w hSw; (try dsimp only at hSw); go_simp; (try with_reducible rfl))
      (try simp only [Act.put, List.setIfInBounds_toArray, List.set_cons_zero, List.set_cons_succ])
      refine tk (v := ?_) 12 ⟨some 77, _, _, _, _, _⟩ rfl ?_ ?_
      rotate_left 2
      · (intro w hSw; (try dsimp only at hSw); go_simp; (try with_reducible rfl))
      (try simp only [Act.put, List.setIfInBounds_toArray, List.set_cons_zero, List.set_cons_succ])
      refine tk (v := ?_) 13 ⟨some 78, _, _, _, _, _⟩ rfl ?_ ?_
      rotate_left 2
      · (intro w hSw; (try dsimp only at hSw); go_simp; (try with_reducible rfl))
      (try simp only [Act.put, List.setIfInBounds_toArray, List.set_cons_zero, List.set_cons_succ])
      refine tk (v := ?_) 14 ⟨some 79, _, _, _, _, _⟩ rfl ?_ ?_
      rotate_left 2
      · (intro w hSw; (try dsimp only at hSw); go_simp; (try with_reducible rfl))
      (try simp only [Act.put, List.setIfInBounds_toArray, List.set_cons_zero, List.set_cons_succ])
      refine tk (v := ?_) 15 ⟨some 80, _, _, _, _, _⟩ rfl ?_ ?_
      rotate_left 2
      · (intro w hSw; (try dsimp only at hSw); go_simp; (try with_reducible rfl))
      (try simp only [Act.put, List.setIfInBounds_toArray, List.set_cons_zero, List.set_cons_succ])
      refine tk (v := ?_) 16 ⟨some 81, _, _, _, _, _⟩ rfl ?_ ?_
      rotate_left 2
      · (intro w hSw; (try dsimp only at hSw); go_simp; (try with_reducible rfl))
      (try simp only [Act.put, List.setIfInBounds_toArray, List.set_cons_zero, List.set_cons_succ])
      refine tk (v := ?_) 17 ⟨some 82, _, _, _, _, _⟩ rfl ?_ ?_
      rotate_left 2
      · (intro w hSw; (try dsimp only at hSw); go_simp; (try with_reducible rfl))
      (try simp only [Act.put, List.setIfInBounds_toArray, List.set_cons_zero, List.set_cons_succ])
      refine wpAnyH_ready (rs := [18]) (by kernel_rfl) (by simp) ?_
      refine AllReadyH.cons (o := ⟨some 83, _, _, _, _, _⟩) rfl (fun K hK => ?_) AllReadyH.nil
      go_simp
      (go_at_call 9; (with_reducible refine (impl_RatFromIntE p.2.1.1 _ (ed_in HP.out).2.1).mono ?_); rintro e w17 ⟨u17, v17, rfl, hb17, g17⟩; have F17 := Lib.hid (show tRat.at w17 [.bool (decide (p.2.1.1 < 0)), u17, v17] (encR (frInt p.2.1.1)) from RatAt.out g17); clear g17)
      refine hK.out _ _ ?_ (fun hHeld => ?_)
      · first | exact More.refl _ | exact mC
      clear hK K
      (try simp only [Act.put, List.setIfInBounds_toArray, List.set_cons_zero, List.set_cons_succ])
      refine wpAnyH_ready (rs := [19]) (by kernel_rfl) (by simp) ?_
      refine AllReadyH.cons (o := ⟨some 84, _, _, _, _, _⟩) rfl (fun K hK => ?_) AllReadyH.nil
      go_simp
      (go_at_call 12; (with_reducible refine (impl_SpansX p.1.1 p.1.2 p.2.1.1 p.2.1.2 p.2.2.1 p.2.2.2 [.bool (decide (p.1.1 < 0)), .slice xa xn xc, .slice ya yn yc] (encR (frInt p.1.1)) [.bool (decide (p.2.1.1 < 0)), u17, v17] (encR (frInt p.2.1.1)) _ (ed_in HP.out).1 (ed_in HP.out).2 (Ty.at_more F11.out mC) (wRat_int (ed_in HP.out).1.1) F17.out (wRat_int (ed_in HP.out).2.1)).mono ?_); rintro e w18 ⟨rfl, hb18⟩; rw [show spanB ((p.1.1, p.1.2), (p.2.1.1, p.2.1.2), p.2.2.1, p.2.2.2) (encR (frInt p.1.1)) (encR (frInt p.2.1.1)) = true from spans_ab HP.out])
      refine hK.out _ _ ?_ (fun hHeld => ?_)
      · first | exact More.refl _ | exact mC
      clear hK K
      (try simp only [Act.put, List.setIfInBounds_toArray, List.set_cons_zero, List.set_cons_succ])
      refine tk (v := ?_) 20 ⟨some 85, _, _, _, _, _⟩ rfl ?_ ?_
      rotate_left 2
      · (intro w hSw; (try dsimp only at hSw); go_simp; (try with_reducible rfl))
      (try simp only [Act.put, List.setIfInBounds_toArray, List.set_cons_zero, List.set_cons_succ])
      refine tk (v := ?_) 21 ⟨some 86, _, _, _, _, _⟩ rfl ?_ ?_
      rotate_left 2
      · (intro w hSw; (try dsimp only at hSw); go_simp; (try with_reducible rfl))
      (try simp only [Act.put, List.setIfInBounds_toArray, List.set_cons_zero, List.set_cons_succ])
      refine tk (v := ?_) 22 ⟨some 87, _, _, _, _, _⟩ rfl ?_ ?_
      rotate_left 2
      · (intro w hSw; (try dsimp only at hSw); go_simp; (try with_reducible rfl))
      (try simp only [Act.put, List.setIfInBounds_toArray, List.set_cons_zero, List.set_cons_succ])
      refine tk (v := ?_) 23 ⟨some 88, _, _, _, _, _⟩ rfl ?_ ?_
      rotate_left 2
      · (intro w hSw; (try dsimp only at hSw); go_simp; (try with_reducible rfl))
      (try simp only [Act.put, List.setIfInBounds_toArray, List.set_cons_zero, List.set_cons_succ])
      refine tk (v := ?_) 24 ⟨some 89, _, _, _, _, _⟩ rfl ?_ ?_
      rotate_left 2
      · (intro w hSw; (try dsimp only at hSw); go_simp; (try with_reducible rfl))
      (try simp only [Act.put, List.setIfInBounds_toArray, List.set_cons_zero, List.set_cons_succ])
      refine tk (v := ?_) 25 ⟨some 90, _, _, _, _, _⟩ rfl ?_ ?_
      rotate_left 2
      · (intro w hSw; (try dsimp only at hSw); go_simp; (try with_reducible rfl))
      (try simp only [Act.put, List.setIfInBounds_toArray, List.set_cons_zero, List.set_cons_succ])
      refine tk (v := ?_) 26 ⟨some 91, _, _, _, _, _⟩ rfl ?_ ?_
      rotate_left 2
      · (intro w hSw; (try dsimp only at hSw); go_simp; (try with_reducible rfl))
      (try simp only [Act.put, List.setIfInBounds_toArray, List.set_cons_zero, List.set_cons_succ])
      refine tk (v := ?_) 27 ⟨some 92, _, _, _, _, _⟩ rfl ?_ ?_
      rotate_left 2
      · (intro w hSw; (try dsimp only at hSw); go_simp; (try with_reducible rfl))
      (try simp only [Act.put, List.setIfInBounds_toArray, List.set_cons_zero, List.set_cons_succ])
      refine tk (v := ?_) 28 ⟨some 93, _, _, _, _, _⟩ rfl ?_ ?_
      rotate_left 2
      · (intro w hSw; (try dsimp only at hSw); go_simp; (try with_reducible rfl))
      (try simp only [Act.put, List.setIfInBounds_toArray, List.set_cons_zero, List.set_cons_succ])
      refine tk (v := ?_) 29 ⟨some 94, _, _, _, _, _⟩ rfl ?_ ?_
      rotate_left 2
      · (intro w hSw; (try dsimp only at hSw); go_simp; (try with_reducible rfl))
      (try simp only [Act.put, List.setIfInBounds_toArray, List.set_cons_zero, List.set_cons_succ])
      refine tk (v := ?_) 30 ⟨some 95, _, _, _, _, _⟩ rfl ?_ ?_
      rotate_left 2
      · (intro w hSw; (try dsimp only at hSw); go_simp; (try with_reducible rfl))
      (try simp only [Act.put, List.setIfInBounds_toArray, List.set_cons_zero, List.set_cons_succ])
      refine tk (v := ?_) 31 ⟨some 96, _, _, _, _, _⟩ rfl ?_ ?_
      rotate_left 2
      · (intro w hSw; (try dsimp only at hSw); go_simp; (try with_reducible rfl))
      (try simp only [Act.put, List.setIfInBounds_toArray, List.set_cons_zero, List.set_cons_succ])
      refine tk (v := ?_) 32 ⟨some 97, _, _, _, _, _⟩ rfl ?_ ?_
      rotate_left 2
      · (intro w hSw; (try dsimp only at hSw); go_simp; (try with_reducible rfl))
      (try simp only [Act.put, List.setIfInBounds_toArray, List.set_cons_zero, List.set_cons_succ])
      refine tk (v := ?_) 33 ⟨some 98, _, _, _, _, _⟩ rfl ?_ ?_
      rotate_left 2
      · (intro w hSw; (try dsimp only at hSw); go_simp; (try with_reducible rfl))
      (try simp only [Act.put, List.setIfInBounds_toArray, List.set_cons_zero, List.set_cons_succ])
      refine tk (v := ?_) 34 ⟨some 99, _, _, _, _, _⟩ rfl ?_ ?_
      rotate_left 2
      · (intro w hSw; (try dsimp only at hSw); go_simp; (try with_reducible rfl))
      (try simp only [Act.put, List.setIfInBounds_toArray, List.set_cons_zero, List.set_cons_succ])
      refine tk (v := ?_) 35 ⟨some 100, _, _, _, _, _⟩ rfl ?_ ?_
      rotate_left 2
      · (intro w hSw; (try dsimp only at hSw); go_simp; (try with_reducible rfl))
      (try simp only [Act.put, List.setIfInBounds_toArray, List.set_cons_zero, List.set_cons_succ])
      refine tk0 36 ⟨some 101, _, _, _, _, _⟩ rfl ?_
      (try simp only [Act.put, List.setIfInBounds_toArray, List.set_cons_zero, List.set_cons_succ])
      refine tk0 37 ⟨some 102, _, _, _, _, _⟩ rfl ?_
      (try simp only [Act.put, List.setIfInBounds_toArray, List.set_cons_zero, List.set_cons_succ])
      refine tk0 38 ⟨some 103, _, _, _, _, _⟩ rfl ?_
      (try simp only [Act.put, List.setIfInBounds_toArray, List.set_cons_zero, List.set_cons_succ])
      refine tk (v := ?_) 39 ⟨some 104, _, _, _, _, _⟩ rfl ?_ ?_
      rotate_left 2
      · (intro w hSw; (try dsimp only at hSw); go_simp; (try with_reducible rfl))
      (try simp only [Act.put, List.setIfInBounds_toArray, List.set_cons_zero, List.set_cons_succ])
      refine tk (v := ?_) 40 ⟨some 105, _, _, _, _, _⟩ rfl ?_ ?_
      rotate_left 2
      · (intro w hSw; (try dsimp only at hSw); go_simp; (try with_reducible rfl))
      (try simp only [Act.put, List.setIfInBounds_toArray, List.set_cons_zero, List.set_cons_succ])
      refine tk (v := ?_) 41 ⟨some 2, _, _, _, _, _⟩ rfl ?_ ?_
      rotate_left 2
      · (intro w hSw; (try dsimp only at hSw); go_simp; (try with_reducible rfl))
      (try simp only [Act.put, List.setIfInBounds_toArray, List.set_cons_zero, List.set_cons_succ])
      refine wpAnyH_done (by kernel_rfl) ?_ _
      go_wp2_with fail
      go_ret
      exact ⟨rfl, mC⟩

end Go.Proofs.Ytiapendgjapgmaa
