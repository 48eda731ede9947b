/- FnPoints returns true, for every input. -/
import Derived.Test.YtnbefpfijaimjaaGreatDoorStw
import Derived.Test.YtnbefpfijaimjaaGreatDoorPdr
import Derived.Test.YtnbefpfijaimjaaGreatDoorFpt
import Derived.Test.YtnbefpfijaimjaaGreatDoorGVtx
import Derived.Test.YtnbefpfijaimjaaGreatDoorSdf
import Derived.Deep.RegionHeld3
import Derived.Deep.QuietTactic
import Derived.BigQuiet
import Derived.Laws.StructEq
namespace Go.Proofs.YtnbefpfijaimjaaGreatDoor
open Go.RowKit
theorem wPt {a : Int} {b : Nat} {c : Int} {P : QP} (h : Spt a b c ∧ P = ptF a b c) : wPoint P ≤ 1048576 := by rw [h.2]; exact wpt h.1
theorem kPt {a : Int} {b : Nat} {c : Int} {P : QP} (h : Spt a b c ∧ P = ptF a b c) : pointB P = true := by rw [h.2]; exact h.1.ok
theorem kMd {a : Int} {b : Nat} {c : Int} {P : QP} {a' : Int} {b' : Nat} {c' : Int} {Q : QP} (h : Spt a b c ∧ P = ptF a b c) (k : Spt a' b' c' ∧ Q = ptF a' b' c') : pointB (midP P Q) = true := by rw [h.2, k.2]; exact mid_ok h.1 k.1
theorem v2 {x : Int} (h : -10 ≤ x ∧ x ≤ 10) : Bd 2 x := by unfold Bd; omega
theorem v3 {x y : Int} (h : (-10 ≤ x ∧ x ≤ 10) ∧ (-10 ≤ y ∧ y ≤ 10)) : (-1000 ≤ x ∧ x ≤ 1000) ∧ (-1000 ≤ y ∧ y ≤ 1000) := by omega
theorem kMv {a : Int} {b : Nat} {c : Int} {P : QP} {x y : Int} (h : Spt a b c ∧ P = ptF a b c) (k : (-10 ≤ x ∧ x ≤ 10) ∧ (-10 ≤ y ∧ y ≤ 10)) : pointB (mvF P x y) = true := by rw [h.2]; exact mv_ok h.1 (v2 k.1) (v2 k.2)
theorem bMv {a : Int} {b : Nat} {c : Int} {P : QP} {x y : Int} (h : Spt a b c ∧ P = ptF a b c) (k : (-10 ≤ x ∧ x ≤ 10) ∧ (-10 ≤ y ∧ y ≤ 10)) : mvF (mvF P x y) (-x) (-y) = P := by rw [h.2]; exact mv_back h.1 (v2 k.1) (v2 k.2)
theorem side_rng (P Q R : QP) : -1 ≤ sideF P Q R ∧ sideF P Q R ≤ 1 := by unfold sideF; exact frSign_range _
theorem side_neg {a1 : Int} {b1 : Nat} {c1 : Int} {P : QP} {a2 : Int} {b2 : Nat} {c2 : Int} {Q : QP} {a3 : Int} {b3 : Nat} {c3 : Int} {R : QP} (h1 : Spt a1 b1 c1 ∧ P = ptF a1 b1 c1) (h2 : Spt a2 b2 c2 ∧ Q = ptF a2 b2 c2) (h3 : Spt a3 b3 c3 ∧ R = ptF a3 b3 c3) : IntKind.i64.wrap (-sideF Q P R) = sideF P Q R := by
  have h := side_rng P Q R
  have e : sideF Q P R = -sideF P Q R := by rw [h1.2, h2.2, h3.2]; exact side_anti h1.1 h2.1 h3.1
  rw [e, Int.neg_neg]
  exact IntWalk.i64_in _ (by omega)
theorem side_md {a1 : Int} {b1 : Nat} {c1 : Int} {P : QP} {a2 : Int} {b2 : Nat} {c2 : Int} {Q : QP} (h1 : Spt a1 b1 c1 ∧ P = ptF a1 b1 c1) (h2 : Spt a2 b2 c2 ∧ Q = ptF a2 b2 c2) : sideF P Q (midP P Q) = 0 := by rw [h1.2, h2.2]; exact side_mid h1.1 h2.1
theorem sq_md {a1 : Int} {b1 : Nat} {c1 : Int} {P : QP} {a2 : Int} {b2 : Nat} {c2 : Int} {Q : QP} (h1 : Spt a1 b1 c1 ∧ P = ptF a1 b1 c1) (h2 : Spt a2 b2 c2 ∧ Q = ptF a2 b2 c2) : sqF P (midP P Q) = sqF (midP P Q) Q := by rw [h1.2, h2.2]; exact sq_mid h1.1 h2.1
theorem impl_FormatP (cs : List Value) (P : QP) (w : World) (h : tPoint.at w cs P) (hw : wPoint P ≤ 1048576) (k : pointB P = true) (ht : PowTab w) :
    Calls Tryz.prog 12 #[.agg cs.toArray] w fun e w' => e = .returned (.string (sB (fR (frOf P.1) ++ 44 :: fR (frOf P.2)))) ∧ More w w' := impl_FormatPoint cs P.1 P.2 w h hw k ht
theorem impl_SideP (cp cq cr : List Value) (P Q R : QP) (w : World) (hp : tPoint.at w cp P) (wp : wPoint P ≤ 1048576) (hq : tPoint.at w cq Q) (wq : wPoint Q ≤ 1048576) (hr : tPoint.at w cr R) (wr : wPoint R ≤ 1048576) (kp : pointB P = true) (kq : pointB Q = true) (kr : pointB R = true) :
    Calls Tryz.prog 17 #[.agg cp.toArray, .agg cq.toArray, .agg cr.toArray] w fun e w' => e = .returned (.int .i64 (sideF P Q R)) ∧ More w w' := impl_SideV cp P.1 P.2 cq Q.1 Q.2 cr R.1 R.2 w hp wp hq wq hr wr kp kq kr
theorem impl_MiddleP (cp : List Value) (P : QP) (cq : List Value) (Q : QP) (w : World) (hp : tPoint.at w cp P) (wp : wPoint P ≤ 1048576) (hq : tPoint.at w cq Q) (wq : wPoint Q ≤ 1048576) (kp : pointB P = true) (kq : pointB Q = true) (km : pointB (midP P Q) = true) :
    Calls Tryz.prog 15 #[.agg cp.toArray, .agg cq.toArray] w fun e w' => ∃ cs : List Value, e = .returned (.agg cs.toArray) ∧ More w w' ∧ tPoint.at w' cs (midP P Q) := by
  refine (impl_MiddleOfV cp P.1 P.2 cq Q.1 Q.2 w hp wp hq wq kp kq km).mono ?_
  rintro e w' ⟨cs, rfl, h1, h2⟩
  exact ⟨cs, rfl, h1, Ty.fresh_at h2⟩
theorem impl_MoveP (cs : List Value) (P : QP) (x y : Int) (w : World) (h : tPoint.at w cs P) (hw : wPoint P ≤ 1048576) (k : pointB P = true) (ix : In64 x) (iy : In64 y) (km : pointB (mvF P x y) = true) :
    Calls Tryz.prog 20 #[.agg cs.toArray, .agg #[.int .i64 x, .int .i64 y]] w fun e w' => ∃ cs : List Value, e = .returned (.agg cs.toArray) ∧ More w w' ∧ tPoint.fresh w.heap.size w' cs (mvF P x y) := impl_MovePointV cs P.1 P.2 x y w h hw k ix iy km
theorem impl_SameP (cp cq : List Value) (P : QP) (w : World) (hp : tPoint.at w cp P) (hq : tPoint.at w cq P) (hw : wPoint P ≤ 1048576) :
    Calls Tryz.prog 16 #[.agg cp.toArray, .agg cq.toArray] w fun e w' => e = .returned (.bool true) ∧ More w w' := by
  refine (impl_SamePoint cp P.1 P.2 cq P.1 P.2 w hp hw hq hw).mono ?_
  rintro e w' ⟨rfl, h⟩
  exact ⟨by rw [decide_eq_true rfl, decide_eq_true rfl]; rfl, h⟩
theorem impl_EqR (cs ds : List Value) (x : QR) (w : World) (hv : tRat.at w cs x) (hv' : tRat.at w ds x) (hw : wRat x ≤ 1048576) :
    Calls Tryz.prog 18 #[.agg cs.toArray, .agg ds.toArray] w fun e w' => e = .returned (.bool true) ∧ More w w' := by
  refine (impl_RatEqual cs ds x x w hv hv' hw hw).mono ?_
  rintro e w' ⟨rfl, h⟩
  exact ⟨by rw [decide_eq_true rfl], h⟩
theorem impl_ParseP (a : Int) (b : Nat) (c : Int) (P : QP) (L : List UInt8) (w : World) (hs : Spt a b c ∧ P = ptF a b c) (hL : L = fR (frOf P.1) ++ 44 :: fR (frOf P.2)) (ht : PowTab w) :
    Calls Tryz.prog 6 #[.string (sB L)] w fun e w' => ∃ cs : List Value, e = .returned (.tuple #[.agg cs.toArray, .bool true]) ∧ More w w' ∧ tPoint.at w' cs P := by
  obtain ⟨hs, rfl⟩ := hs
  rw [hs.of1, Spt.of2] at hL
  have hp : pP L = some (frMk a b, frMk c 1) := by rw [hL]; exact pt_parse hs
  have hl : L.length ≤ 1048576 := by
    have h1 := fR_len (frB_good (k := 2) (by decide) hs.ha hs.hb hs.b0)
    have h2 := fR_len (frB_good (k := 2) (by decide) hs.hc bdN1 (by decide))
    rw [hL]
    simp only [List.length_append, List.length_cons]
    omega
  refine (impl_ParsePoint L w hl ht).mono ?_
  rintro e w' ⟨u, v, u', v', rfl, h2, h3⟩
  rw [hp] at h3 ⊢
  exact ⟨_, rfl, h2, Ty.fresh_at h3⟩
theorem impl_ParseVZ (x y : Int) (K : List UInt8) (w : World) (hK : K = fV x y) (hx : -1000 ≤ x ∧ x ≤ 1000) (hy : -1000 ≤ y ∧ y ≤ 1000) (ht : PowTab w) :
    Calls Tryz.prog 13 #[.string (sB K)] w fun e w' => e = .returned (.tuple #[.agg #[.int .i64 x, .int .i64 y], .bool true]) ∧ More w w' := by
  subst hK
  exact impl_ParseVecZ x y w hx hy ht
set_option maxRecDepth 8000 in
set_option maxHeartbeats 12800000 in
theorem law_Points {W : World} (v0 : Value) (l : List Int) (hv0 : tCode.at W [v0] l) (ht : PowTab W) :
    Calls Tryz.prog 4 #[v0] W fun e w' => e = .returned (.bool true) ∧ More W w' := by
  obtain ⟨ao, cap, rfl⟩ := sl_len hv0
  have HV := Lib.hid hv0; clear hv0
  by_cases hl : l.length ≤ 1048576
  rotate_left
  · have h1 : (1048576 : Int) < (l.length : Int) := by omega
    clear ht
    go_enter Tryz.func4, Tryz.ntmps4
    go_wp2_with fail
    go_ret
    exact ⟨rfl, mC⟩
  have h1 : ¬ (1048576 : Int) < (l.length : Int) := by omega
  have HL := Lib.hid hl
  have HT := Lib.hid ht; clear ht
  go_enter Tryz.func4, Tryz.ntmps4
  go_wp2_with (first | (go_at_call 10; (with_reducible refine (spec_MakePoint ao cap l 0 0 _ rfl (Ty.at_more HV.out mC) HL.out (by decide)).mono ?_); rintro e w1 ⟨p01, p02, p03, cs1, hs1, rfl, hb1, f1⟩; obtain ⟨P, hP1⟩ : ∃ P, P = ptF p01 p02 p03 := ⟨_, rfl⟩; rw [← hP1] at f1; obtain ⟨pa, pb, pc, pd, pe, pf, pg, ph, pi, pj, pk, pl, rfl⟩ := sh_Point f1; have FP := Lib.hid f1; have HP := Lib.hid (And.intro hs1 hP1); clear f1 hs1 hP1; have HBP := fun (w0 : World) (h : More (w1.alloc (.cells #[.bool P.1.1.1, .slice pa pb pc, .slice pd pe pf, .bool P.2.1.1, .slice pg ph pi, .slice pj pk pl] 28)) w0) => bx6 w1.heap.size rfl h) | (go_at_call 10; (with_reducible refine (spec_MakePoint ao cap l 1 1 _ rfl (Ty.at_more HV.out mC) HL.out (by decide)).mono ?_); rintro e w2 ⟨q01, q02, q03, cs2, hs2, rfl, hb2, f2⟩; obtain ⟨Q, hP2⟩ : ∃ P, P = ptF q01 q02 q03 := ⟨_, rfl⟩; rw [← hP2] at f2; obtain ⟨qa, qb, qc, qd, qe, qf, qg, qh, qi, qj, qk, ql, rfl⟩ := sh_Point f2; have FQ := Lib.hid f2; have HQ := Lib.hid (And.intro hs2 hP2); clear f2 hs2 hP2; have HBQ := fun (w0 : World) (h : More (w2.alloc (.cells #[.bool Q.1.1.1, .slice qa qb qc, .slice qd qe qf, .bool Q.2.1.1, .slice qg qh qi, .slice qj qk ql] 28)) w0) => bx6 w2.heap.size rfl h) | (go_at_call 10; (with_reducible refine (spec_MakePoint ao cap l 2 2 _ rfl (Ty.at_more HV.out mC) HL.out (by decide)).mono ?_); rintro e w3 ⟨r01, r02, r03, cs3, hs3, rfl, hb3, f3⟩; obtain ⟨R, hP3⟩ : ∃ P, P = ptF r01 r02 r03 := ⟨_, rfl⟩; rw [← hP3] at f3; obtain ⟨ra, rb, rc, rd, re, rf, rg, rh, ri, rj, rk, rl, rfl⟩ := sh_Point f3; have FR := Lib.hid f3; have HR := Lib.hid (And.intro hs3 hP3); clear f3 hs3 hP3; have HBR := fun (w0 : World) (h : More (w3.alloc (.cells #[.bool R.1.1.1, .slice ra rb rc, .slice rd re rf, .bool R.2.1.1, .slice rg rh ri, .slice rj rk rl] 28)) w0) => bx6 w3.heap.size rfl h) | (go_at_call 11; (with_reducible refine (spec_MakeVec ao cap l 9 9 _ rfl (Ty.at_more HV.out mC) HL.out (by decide)).mono ?_); rintro e w4 ⟨x, y, hxy, rfl, hb4⟩; have HXY := Lib.hid hxy; clear hxy; have HBV := fun (w0 : World) (h : More (w4.alloc (.cells #[.int .i64 x, .int .i64 y] 37)) w0) => bx2 w4.heap.size rfl h; have z1_4 : w1.heap.size < w4.heap.size := (by have h9 := More.size (show More (w1.alloc (.cells #[.bool P.1.1.1, .slice pa pb pc, .slice pd pe pf, .bool P.2.1.1, .slice pg ph pi, .slice pj pk pl] 28)) w4 from mC); simp at h9; omega); have M4 := HBP w4 mC; skip) | (go_at_call 12; (with_reducible refine (impl_FormatP [.bool P.1.1.1, .slice pa pb pc, .slice pd pe pf, .bool P.2.1.1, .slice pg ph pi, .slice pj pk pl] P _ (Ty.at_more FP.out mC) (wPt HP.out) (kPt HP.out) (HT.out.more mC)).mono ?_); rintro e w5 ⟨rfl, hb5⟩; obtain ⟨L, hL⟩ : ∃ L, L = fR (frOf P.1) ++ 44 :: fR (frOf P.2) := ⟨_, rfl⟩; rw [← hL]; have HLp := Lib.hid hL; clear hL M4) | (go_at_call 6; (with_reducible refine (impl_ParseP p01 p02 p03 P L _ HP.out HLp.out (HT.out.more mC)).mono ?_); rintro e w6 ⟨cs6, rfl, hb6, f6⟩; obtain ⟨xa, xb, xc, xd, xe, xf, xg, xh, xi, xj, xk, xl, rfl⟩ := sh_Point f6; have FX := Lib.hid f6; clear f6; have HBX := fun (w0 : World) (h : More (w6.alloc (.cells #[.bool P.1.1.1, .slice xa xb xc, .slice xd xe xf, .bool P.2.1.1, .slice xg xh xi, .slice xj xk xl] 28)) w0) => bx6 w6.heap.size rfl h; have z4_6 : w4.heap.size < w6.heap.size := (by have h9 := More.size (show More (w4.alloc (.cells #[.int .i64 x, .int .i64 y] 37)) w6 from mC); simp at h9; omega); have M6 := HBV w6 mC; skip) | (go_at_call 14; (with_reducible refine (impl_FormatVec x y _ (v3 HXY.out).1 (v3 HXY.out).2 (HT.out.more mC)).mono ?_); rintro e w7 ⟨rfl, hb7⟩; obtain ⟨K, hK⟩ : ∃ K, K = fV x y := ⟨_, rfl⟩; rw [← hK]; have HK := Lib.hid hK; clear hK M6) | (go_at_call 13; (with_reducible refine (impl_ParseVZ x y K _ HK.out (v3 HXY.out).1 (v3 HXY.out).2 (HT.out.more mC)).mono ?_); rintro e w8 ⟨rfl, hb8⟩; have HBW := fun (w0 : World) (h : More (w8.alloc (.cells #[.int .i64 x, .int .i64 y] 37)) w0) => bx2 w8.heap.size rfl h; have z1_8 : w1.heap.size < w8.heap.size := (by have h9 := More.size (show More (w1.alloc (.cells #[.bool P.1.1.1, .slice pa pb pc, .slice pd pe pf, .bool P.2.1.1, .slice pg ph pi, .slice pj pk pl] 28)) w8 from mC); simp at h9; omega); have z2_8 : w2.heap.size < w8.heap.size := (by have h9 := More.size (show More (w2.alloc (.cells #[.bool Q.1.1.1, .slice qa qb qc, .slice qd qe qf, .bool Q.2.1.1, .slice qg qh qi, .slice qj qk ql] 28)) w8 from mC); simp at h9; omega); have M8 := And.intro (HBP w8 mC) (HBQ w8 mC); skip) | (go_at_call 15; (with_reducible refine (impl_MiddleP [.bool P.1.1.1, .slice pa pb pc, .slice pd pe pf, .bool P.2.1.1, .slice pg ph pi, .slice pj pk pl] P [.bool Q.1.1.1, .slice qa qb qc, .slice qd qe qf, .bool Q.2.1.1, .slice qg qh qi, .slice qj qk ql] Q _ (Ty.at_more FP.out mC) (wPt HP.out) (Ty.at_more FQ.out mC) (wPt HQ.out) (kPt HP.out) (kPt HQ.out) (kMd HP.out HQ.out)).mono ?_); rintro e w9 ⟨cs9, rfl, hb9, f9⟩; obtain ⟨M, hM⟩ : ∃ M, M = midP P Q := ⟨_, rfl⟩; rw [← hM] at f9; obtain ⟨ma, mb, mc, md, me, mf, mg, mh, mi, mj, mk, ml, rfl⟩ := sh_Point f9; have FM := Lib.hid f9; have HM := Lib.hid hM; clear f9 hM M8; have HBM := fun (w0 : World) (h : More (w9.alloc (.cells #[.bool M.1.1.1, .slice ma mb mc, .slice md me mf, .bool M.2.1.1, .slice mg mh mi, .slice mj mk ml] 28)) w0) => bx6 w9.heap.size rfl h))
  have WM : Hid (wPoint M ≤ 1048576) := Lib.hid (by rw [HM.out]; exact wmid P Q)
  have KM : Hid (pointB M = true) := Lib.hid (by rw [HM.out]; exact kMd HP.out HQ.out)
  have HMC : Hid (midP Q P = M) := Lib.hid (by rw [HM.out, mid_comm])
  obtain ⟨s2, hs2⟩ : ∃ s, sideF Q P R = s := ⟨_, rfl⟩
  obtain ⟨s1, hs1⟩ : ∃ s, sideF P Q R = s := ⟨_, rfl⟩
  have hneg : IntKind.i64.wrap (-s2) = s1 := by rw [← hs1, ← hs2]; exact side_neg HP.out HQ.out HR.out
  have HS1 := Lib.hid hs1; have HS2 := Lib.hid hs2; clear hs1 hs2
  have HS3 : Hid (sideF P Q M = 0) := Lib.hid (by rw [HM.out]; exact side_md HP.out HQ.out)
  obtain ⟨S, hS⟩ : ∃ s, encR (sqF P M) = s := ⟨_, rfl⟩
  have HD1 := Lib.hid hS
  have HD2 : Hid (encR (sqF M Q) = S) := Lib.hid (by rw [← hS, HM.out, sq_md HP.out HQ.out])
  have WS : Hid (wRat S ≤ 1048576) := Lib.hid (by rw [← hS]; exact sqF_len P M)
  clear hS
  obtain ⟨N, hN⟩ : ∃ s, mvF P x y = s := ⟨_, rfl⟩
  have HN := Lib.hid hN
  have WN : Hid (wPoint N ≤ 1048576) := Lib.hid (by rw [← hN]; exact wmv P x y)
  have KN : Hid (pointB N = true) := Lib.hid (by rw [← hN]; exact kMv HP.out HXY.out)
  have HNB : Hid (mvF N (-x) (-y) = P) := Lib.hid (by rw [← hN]; exact bMv HP.out HXY.out)
  have KB : Hid (pointB (mvF N (-x) (-y)) = true) := Lib.hid (by rw [HNB.out]; exact kPt HP.out)
  clear hN
  have IX : Hid (In64 x ∧ In64 y) := Lib.hid (by have := HXY.out; exact ⟨In64.small (by omega), In64.small (by omega)⟩)
  have IY : Hid (In64 (-x) ∧ In64 (-y)) := Lib.hid (by have := HXY.out; exact ⟨In64.small (by omega), In64.small (by omega)⟩)
  have hnx : IntKind.i64.wrap (-x) = -x := IntWalk.i64_in _ (by have := HXY.out; omega)
  have hny : IntKind.i64.wrap (-y) = -y := IntWalk.i64_in _ (by have := HXY.out; omega)
  have RB := fun (w0 : World) (h : More (w9.alloc (.cells #[.bool M.1.1.1, .slice ma mb mc, .slice md me mf, .bool M.2.1.1, .slice mg mh mi, .slice mj mk ml] 28)) w0) => And.intro (HBP w0 (More.trans (show More (w1.alloc (.cells #[.bool P.1.1.1, .slice pa pb pc, .slice pd pe pf, .bool P.2.1.1, .slice pg ph pi, .slice pj pk pl] 28)) (w9.alloc (.cells #[.bool M.1.1.1, .slice ma mb mc, .slice md me mf, .bool M.2.1.1, .slice mg mh mi, .slice mj mk ml] 28)) from mC) h)) (And.intro (HBQ w0 (More.trans (show More (w2.alloc (.cells #[.bool Q.1.1.1, .slice qa qb qc, .slice qd qe qf, .bool Q.2.1.1, .slice qg qh qi, .slice qj qk ql] 28)) (w9.alloc (.cells #[.bool M.1.1.1, .slice ma mb mc, .slice md me mf, .bool M.2.1.1, .slice mg mh mi, .slice mj mk ml] 28)) from mC) h)) (And.intro (HBR w0 (More.trans (show More (w3.alloc (.cells #[.bool R.1.1.1, .slice ra rb rc, .slice rd re rf, .bool R.2.1.1, .slice rg rh ri, .slice rj rk rl] 28)) (w9.alloc (.cells #[.bool M.1.1.1, .slice ma mb mc, .slice md me mf, .bool M.2.1.1, .slice mg mh mi, .slice mj mk ml] 28)) from mC) h)) (And.intro (HBV w0 (More.trans (show More (w4.alloc (.cells #[.int .i64 x, .int .i64 y] 37)) (w9.alloc (.cells #[.bool M.1.1.1, .slice ma mb mc, .slice md me mf, .bool M.2.1.1, .slice mg mh mi, .slice mj mk ml] 28)) from mC) h)) (And.intro (HBX w0 (More.trans (show More (w6.alloc (.cells #[.bool P.1.1.1, .slice xa xb xc, .slice xd xe xf, .bool P.2.1.1, .slice xg xh xi, .slice xj xk xl] 28)) (w9.alloc (.cells #[.bool M.1.1.1, .slice ma mb mc, .slice md me mf, .bool M.2.1.1, .slice mg mh mi, .slice mj mk ml] 28)) from mC) h)) (And.intro (HBW w0 (More.trans (show More (w8.alloc (.cells #[.int .i64 x, .int .i64 y] 37)) (w9.alloc (.cells #[.bool M.1.1.1, .slice ma mb mc, .slice md me mf, .bool M.2.1.1, .slice mg mh mi, .slice mj mk ml] 28)) from mC) h)) (HBM w0 h))))))
  clear HBP HBQ HBR HBV HBX HBW HBM
  conv => arg 2; dsimp only [List.append]
  go_region_held3 (fun w' => More (w9.alloc (.cells #[.bool M.1.1.1, .slice ma mb mc, .slice md me mf, .bool M.2.1.1, .slice mg mh mi, .slice mj mk ml] 28)) w') (first | exact More.refl _ | exact mC) (first | (go_at_call 16; (with_reducible refine (impl_SameP [.bool P.1.1.1, .slice xa xb xc, .slice xd xe xf, .bool P.2.1.1, .slice xg xh xi, .slice xj xk xl] [.bool P.1.1.1, .slice pa pb pc, .slice pd pe pf, .bool P.2.1.1, .slice pg ph pi, .slice pj pk pl] P _ (Ty.at_more FX.out mC) (Ty.at_more FP.out mC) (wPt HP.out)).mono ?_); rintro e w10 ⟨rfl, hb10⟩) | (go_at_call 17; (with_reducible refine (impl_SideP [.bool P.1.1.1, .slice pa pb pc, .slice pd pe pf, .bool P.2.1.1, .slice pg ph pi, .slice pj pk pl] [.bool Q.1.1.1, .slice qa qb qc, .slice qd qe qf, .bool Q.2.1.1, .slice qg qh qi, .slice qj qk ql] [.bool R.1.1.1, .slice ra rb rc, .slice rd re rf, .bool R.2.1.1, .slice rg rh ri, .slice rj rk rl] P Q R _ (Ty.at_more FP.out mC) (wPt HP.out) (Ty.at_more FQ.out mC) (wPt HQ.out) (Ty.at_more FR.out mC) (wPt HR.out) (kPt HP.out) (kPt HQ.out) (kPt HR.out)).mono ?_); rintro e w11 ⟨rfl, hb11⟩; rw [HS1.out]) | (go_at_call 17; (with_reducible refine (impl_SideP [.bool Q.1.1.1, .slice qa qb qc, .slice qd qe qf, .bool Q.2.1.1, .slice qg qh qi, .slice qj qk ql] [.bool P.1.1.1, .slice pa pb pc, .slice pd pe pf, .bool P.2.1.1, .slice pg ph pi, .slice pj pk pl] [.bool R.1.1.1, .slice ra rb rc, .slice rd re rf, .bool R.2.1.1, .slice rg rh ri, .slice rj rk rl] Q P R _ (Ty.at_more FQ.out mC) (wPt HQ.out) (Ty.at_more FP.out mC) (wPt HP.out) (Ty.at_more FR.out mC) (wPt HR.out) (kPt HQ.out) (kPt HP.out) (kPt HR.out)).mono ?_); rintro e w12 ⟨rfl, hb12⟩; rw [HS2.out]) | (go_at_call 17; (with_reducible refine (impl_SideP [.bool P.1.1.1, .slice pa pb pc, .slice pd pe pf, .bool P.2.1.1, .slice pg ph pi, .slice pj pk pl] [.bool Q.1.1.1, .slice qa qb qc, .slice qd qe qf, .bool Q.2.1.1, .slice qg qh qi, .slice qj qk ql] [.bool M.1.1.1, .slice ma mb mc, .slice md me mf, .bool M.2.1.1, .slice mg mh mi, .slice mj mk ml] P Q M _ (Ty.at_more FP.out mC) (wPt HP.out) (Ty.at_more FQ.out mC) (wPt HQ.out) (Ty.at_more FM.out mC) WM.out (kPt HP.out) (kPt HQ.out) KM.out).mono ?_); rintro e w13 ⟨rfl, hb13⟩; rw [HS3.out]) | (go_at_call 19; (with_reducible refine (impl_SquareDistanceL [.bool P.1.1.1, .slice pa pb pc, .slice pd pe pf, .bool P.2.1.1, .slice pg ph pi, .slice pj pk pl] [.bool M.1.1.1, .slice ma mb mc, .slice md me mf, .bool M.2.1.1, .slice mg mh mi, .slice mj mk ml] P M _ (Ty.at_more FP.out mC) (wPt HP.out) (Ty.at_more FM.out mC) WM.out).mono ?_); rintro e w14 ⟨cs14, rfl, hb14, f14⟩; have f14 := Ty.fresh_at f14; rw [HD1.out] at f14; obtain ⟨sa, sb, sc, sd, se, sf, rfl⟩ := sh_Rat f14; have F14 := Lib.hid f14; clear f14) | (go_at_call 19; (with_reducible refine (impl_SquareDistanceL [.bool M.1.1.1, .slice ma mb mc, .slice md me mf, .bool M.2.1.1, .slice mg mh mi, .slice mj mk ml] [.bool Q.1.1.1, .slice qa qb qc, .slice qd qe qf, .bool Q.2.1.1, .slice qg qh qi, .slice qj qk ql] M Q _ (Ty.at_more FM.out mC) WM.out (Ty.at_more FQ.out mC) (wPt HQ.out)).mono ?_); rintro e w15 ⟨cs15, rfl, hb15, f15⟩; have f15 := Ty.fresh_at f15; rw [HD2.out] at f15; obtain ⟨ta, tb, tc, td, te, tf, rfl⟩ := sh_Rat f15; have F15 := Lib.hid f15; clear f15) | (go_at_call 18; (with_reducible refine (impl_EqR [.bool S.1.1, .slice sa sb sc, .slice sd se sf] [.bool S.1.1, .slice ta tb tc, .slice td te tf] S _ (Ty.at_more F14.out hb15) F15.out WS.out).mono ?_); rintro e w16 ⟨rfl, hb16⟩) | (go_at_call 20; (with_reducible refine (impl_MoveP [.bool P.1.1.1, .slice pa pb pc, .slice pd pe pf, .bool P.2.1.1, .slice pg ph pi, .slice pj pk pl] P x y _ (Ty.at_more FP.out mC) (wPt HP.out) (kPt HP.out) IX.out.1 IX.out.2 (kMv HP.out HXY.out)).mono ?_); rintro e w17 ⟨cs17, rfl, hb17, f17⟩; have f17 := Ty.fresh_at f17; rw [HN.out] at f17; obtain ⟨na, nb, nc, nd, ne, nf, ng, nh, ni, nj, nk, nl, rfl⟩ := sh_Point f17; have F17 := Lib.hid f17; clear f17) | (go_at_call 20; (with_reducible refine (impl_MoveP [.bool N.1.1.1, .slice na nb nc, .slice nd ne nf, .bool N.2.1.1, .slice ng nh ni, .slice nj nk nl] N (-x) (-y) _ F17.out WN.out KN.out IY.out.1 IY.out.2 KB.out).mono ?_); rintro e w18 ⟨cs18, rfl, hb18, f18⟩; have f18 := Ty.fresh_at f18; rw [HNB.out] at f18; obtain ⟨oa, ob, oc, od, oe, of, og, oh, oi, oj, ok, ol, rfl⟩ := sh_Point f18; have F18 := Lib.hid f18; clear f18) | (go_at_call 16; (with_reducible refine (impl_SameP [.bool P.1.1.1, .slice oa ob oc, .slice od oe of, .bool P.2.1.1, .slice og oh oi, .slice oj ok ol] [.bool P.1.1.1, .slice pa pb pc, .slice pd pe pf, .bool P.2.1.1, .slice pg ph pi, .slice pj pk pl] P _ F18.out (Ty.at_more FP.out mC) (wPt HP.out)).mono ?_); rintro e w19 ⟨rfl, hb19⟩) | (go_at_call 15; (with_reducible refine (impl_MiddleP [.bool Q.1.1.1, .slice qa qb qc, .slice qd qe qf, .bool Q.2.1.1, .slice qg qh qi, .slice qj qk ql] Q [.bool P.1.1.1, .slice pa pb pc, .slice pd pe pf, .bool P.2.1.1, .slice pg ph pi, .slice pj pk pl] P _ (Ty.at_more FQ.out mC) (wPt HQ.out) (Ty.at_more FP.out mC) (wPt HP.out) (kPt HQ.out) (kPt HP.out) (kMd HQ.out HP.out)).mono ?_); rintro e w20 ⟨cs20, rfl, hb20, f20⟩; rw [HMC.out] at f20; obtain ⟨ua, ub, uc, ud, ue, uf, ug, uh, ui, uj, uk, ul, rfl⟩ := sh_Point f20; have F20 := Lib.hid f20; clear f20) | (go_at_call 16; (with_reducible refine (impl_SameP [.bool M.1.1.1, .slice ma mb mc, .slice md me mf, .bool M.2.1.1, .slice mg mh mi, .slice mj mk ml] [.bool M.1.1.1, .slice ua ub uc, .slice ud ue uf, .bool M.2.1.1, .slice ug uh ui, .slice uj uk ul] M _ (Ty.at_more FM.out mC) F20.out WM.out).mono ?_); rintro e w21 ⟨rfl, hb21⟩))
  all_goals
    go_wp2_with fail
    go_ret
    exact ⟨rfl, mC⟩
end Go.Proofs.YtnbefpfijaimjaaGreatDoor
