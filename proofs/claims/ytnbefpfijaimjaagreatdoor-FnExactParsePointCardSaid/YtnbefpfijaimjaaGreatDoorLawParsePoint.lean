/- FnExactParsePoint returns true, for every input. -/
import Derived.Test.YtnbefpfijaimjaaGreatDoorStw
import Derived.Test.YtnbefpfijaimjaaGreatDoorEqPoint
import Derived.Test.YtnbefpfijaimjaaGreatDoorMkPoint
namespace Go.Proofs.YtnbefpfijaimjaaGreatDoor
open Go.RowKit
def C6 (w : World) (N : Nat) (a b c d e f : Value) : Prop := w.cell? ⟨N, 0, none⟩ = some a ∧ w.cell? ⟨N, 1, none⟩ = some b ∧ w.cell? ⟨N, 2, none⟩ = some c ∧ w.cell? ⟨N, 3, none⟩ = some d ∧ w.cell? ⟨N, 4, none⟩ = some e ∧ w.cell? ⟨N, 5, none⟩ = some f ∧ N < w.heap.size
theorem C6.new {X w' : World} {a b c d e f : Value} {t : TypeId} {N : Nat} (hN : X.heap.size = N) (h : More (X.alloc (.cells #[a, b, c, d, e, f] t)) w') : C6 w' N a b c d e f := ⟨box_new hN h 0, box_new hN h 1, box_new hN h 2, box_new hN h 3, box_new hN h 4, box_new hN h 5, alloc_lt hN h⟩
theorem C6.keep {w w' : World} {N : Nat} {a b c d e f : Value} (h : C6 w N a b c d e f) (hm : More w w') : C6 w' N a b c d e f := by
  obtain ⟨h0, h1, h2, h3, h4, h5, h6⟩ := h
  exact ⟨box_keep hm h6 h0, box_keep hm h6 h1, box_keep hm h6 h2, box_keep hm h6 h3, box_keep hm h6 h4, box_keep hm h6 h5, Nat.lt_of_lt_of_le h6 hm.size⟩
theorem C6.turn {w w' : World} {bs : List Nat} {N : Nat} {a b c d e f : Value} (h : C6 w N a b c d e f) (ht : Turns bs w w') (hb : N ∉ bs) : C6 w' N a b c d e f := by
  obtain ⟨h0, h1, h2, h3, h4, h5, h6⟩ := h
  have k := ht.block _ h6 hb
  exact ⟨cell_heap h0 k, cell_heap h1 k, cell_heap h2 k, cell_heap h3 k, cell_heap h4 k, cell_heap h5 k, Nat.lt_of_lt_of_le h6 ht.size⟩
theorem pR_vd (l : List UInt8) : Vd ((pR l).getD (0, 0)) := by
  have key : ∀ a t, Vd ((pRm l a t).getD (0, 0)) := by
    intro a t
    cases a with
    | none => rw [pRm_a]; exact Vd.zero
    | some m =>
      cases t with
      | none => rw [pRm_t]; exact Vd.zero
      | some d =>
        rcases Bool.eq_false_or_eq_true (ratOkB (encR (m, d)) && decide (fR (m, d) = l)) with hb | hb
        · rw [pRm_yes hb]
          rw [Bool.and_eq_true] at hb
          exact (good_enc hb.1).vd
        · rw [pRm_no hb]
          exact Vd.zero
  exact key _ _
theorem pP_vd (l : List UInt8) : Vd ((pP l).getD ((0, 0), (0, 0))).1 ∧ Vd ((pP l).getD ((0, 0), (0, 0))).2 := by
  rw [pP_ppm]
  split
  · have h1 := pR_vd (cutC 44 l).1
    have h2 := pR_vd (cutC 44 l).2.1
    cases ha : pR (cutC 44 l).1 with
    | none => exact ⟨Vd.zero, Vd.zero⟩
    | some a =>
      cases hb : pR (cutC 44 l).2.1 with
      | none => exact ⟨Vd.zero, Vd.zero⟩
      | some b =>
        rw [ha] at h1
        rw [hb] at h2
        exact ⟨h1, h2⟩
  · exact ⟨Vd.zero, Vd.zero⟩
theorem vd_w {f : Fr} (h : Vd f) : wRat (encR f) ≤ 48 := by
  have h1 := h.sm1
  have h2 := h.sm2
  unfold wRat wBigInt wIntS encR encZ
  show (limbs f.1.natAbs).length + (limbs f.2).length ≤ 48
  omega
theorem pt_sl {w : World} {b c : Bool} {u v u' v' : Value} {x : QP} (h : tPoint.at w [.bool b, u, v, .bool c, u', v'] x) : ∃ (a1 : Option Addr) (n1 c1 : Nat) (a2 : Option Addr) (n2 c2 : Nat) (a3 : Option Addr) (n3 c3 : Nat) (a4 : Option Addr) (n4 c4 : Nat), u = .slice a1 n1 c1 ∧ v = .slice a2 n2 c2 ∧ u' = .slice a3 n3 c3 ∧ v' = .slice a4 n4 c4 := by
  obtain ⟨a1, n1, c1, a2, n2, c2, a3, n3, c3, a4, n4, c4, e⟩ := sh_Point h
  simp only [List.cons.injEq] at e
  obtain ⟨_, rfl, rfl, _, rfl, rfl, _⟩ := e
  exact ⟨_, _, _, _, _, _, _, _, _, _, _, _, rfl, rfl, rfl, rfl⟩
set_option maxRecDepth 8000 in
set_option maxHeartbeats 12800000 in
theorem law_ParsePoint {W : World} (l : List UInt8) (ht : PowTab W) :
    Calls Tryz.prog 3 #[.string (sB l)] W fun e w' => e = .returned (.bool true) ∧ More W w' := by
  obtain ⟨n, hn⟩ : ∃ n, n = l.length := ⟨_, rfl⟩
  have hs : (sB l).size = n := by rw [sB_size, hn]
  by_cases hbig : 1048576 < n
  · have hb' : (1048576 : Int) < (n : Int) := by omega
    clear ht hn
    go_enter Tryz.func3, Tryz.ntmps3
    go_wp2_with fail
    go_ret
    exact ⟨rfl, mC⟩
  have hb' : ¬ (1048576 : Int) < (n : Int) := by omega
  have HL : Hid (l.length ≤ 1048576) := Lib.hid (by omega)
  have HT := Lib.hid ht
  obtain ⟨f, hf⟩ : ∃ f, f = ((pP l).getD ((0, 0), (0, 0))).1 := ⟨_, rfl⟩
  obtain ⟨g, hg⟩ : ∃ f, f = ((pP l).getD ((0, 0), (0, 0))).2 := ⟨_, rfl⟩
  obtain ⟨o, ho⟩ : ∃ o, o = (pP l).isSome := ⟨_, rfl⟩
  have HF := Lib.hid hf; have HG := Lib.hid hg; have HO := Lib.hid ho
  have HW : Hid (wPoint (encR f, encR g) ≤ 1048576) := Lib.hid (by
    have h1 := vd_w (pP_vd l).1
    have h2 := vd_w (pP_vd l).2
    rw [← hf] at h1
    rw [← hg] at h2
    unfold wPoint
    show wRat (encR f) + wRat (encR g) ≤ 1048576
    omega)
  have HC : Hid (cPoint (encR f, encR g) ≤ 8388608) := Lib.hid (by have h := cPoint_le (encR f, encR g); have h2 := HW.out; omega)
  have hoo : (o == o) = true := by simp
  have hoo2 : (o != o) = false := by simp
  have SP : Hid (∀ w, Calls Tryz.prog 5 #[.string (sB l)] w fun e w' => ∃ (a1 : Option Addr) (n1 c1 : Nat) (a2 : Option Addr) (n2 c2 : Nat) (a3 : Option Addr) (n3 c3 : Nat) (a4 : Option Addr) (n4 c4 : Nat), e = .returned (.tuple #[.agg #[.bool (decide (f.1 < 0)), .slice a1 n1 c1, .slice a2 n2 c2, .bool (decide (g.1 < 0)), .slice a3 n3 c3, .slice a4 n4 c4], .bool o]) ∧ More w w' ∧ tPoint.fresh w.heap.size w' [.bool (decide (f.1 < 0)), .slice a1 n1 c1, .slice a2 n2 c2, .bool (decide (g.1 < 0)), .slice a3 n3 c3, .slice a4 n4 c4] (encR f, encR g)) := Lib.hid (fun w => (spec_ParsePoint l w HL.out).mono (by
    rintro e w' ⟨u, v, u', v', rfl, h2, h3⟩
    rw [← hf, ← hg] at h3 ⊢
    rw [← ho]
    obtain ⟨a1, n1, c1, a2, n2, c2, a3, n3, c3, a4, n4, c4, rfl, rfl, rfl, rfl⟩ := pt_sl (Ty.fresh_at h3)
    exact ⟨_, _, _, _, _, _, _, _, _, _, _, _, rfl, h2, h3⟩))
  have IP : Hid (∀ w, PowTab w → Calls Tryz.prog 6 #[.string (sB l)] w fun e w' => ∃ (a1 : Option Addr) (n1 c1 : Nat) (a2 : Option Addr) (n2 c2 : Nat) (a3 : Option Addr) (n3 c3 : Nat) (a4 : Option Addr) (n4 c4 : Nat), e = .returned (.tuple #[.agg #[.bool (decide (f.1 < 0)), .slice a1 n1 c1, .slice a2 n2 c2, .bool (decide (g.1 < 0)), .slice a3 n3 c3, .slice a4 n4 c4], .bool o]) ∧ More w w' ∧ tPoint.fresh w.heap.size w' [.bool (decide (f.1 < 0)), .slice a1 n1 c1, .slice a2 n2 c2, .bool (decide (g.1 < 0)), .slice a3 n3 c3, .slice a4 n4 c4] (encR f, encR g)) := Lib.hid (fun w hw => (impl_ParsePoint l w HL.out hw).mono (by
    rintro e w' ⟨u, v, u', v', rfl, h2, h3⟩
    rw [← hf, ← hg] at h3 ⊢
    rw [← ho]
    obtain ⟨a1, n1, c1, a2, n2, c2, a3, n3, c3, a4, n4, c4, rfl, rfl, rfl, rfl⟩ := pt_sl (Ty.fresh_at h3)
    exact ⟨_, _, _, _, _, _, _, _, _, _, _, _, rfl, h2, h3⟩))
  clear hf hg ho ht hn hbig
  go_enter Tryz.func3, Tryz.ntmps3
  go_wp2_with fail
  refine (SP.out _).mono ?_
  rintro e w1 ⟨y1, y2, y3, y4, y5, y6, y7, y8, y9, y10, y11, y12, rfl, b1, Fy⟩
  have FY := Lib.hid Fy; clear Fy
  go_wp2_with fail
  refine (IP.out _ (HT.out.more mC)).mono ?_
  rintro e w2 ⟨g1, g2, g3, g4, g5, g6, g7, g8, g9, g10, g11, g12, rfl, b2, Fg⟩
  obtain ⟨bs, X, hnd, hlo⟩ := Fg
  have HX := Lib.hid X; have HND := Lib.hid hnd; have HLO := Lib.hid hlo
  have A2 := Lib.hid (show C6 w2 w1.heap.size (.bool (decide (f.1 < 0))) (.slice y1 y2 y3) (.slice y4 y5 y6) (.bool (decide (g.1 < 0))) (.slice y7 y8 y9) (.slice y10 y11 y12) from C6.new rfl b2)
  have HMA : Hid (More w1 w2) := Lib.hid (More.un b2)
  have NA : Hid (w1.heap.size ∉ bs) := Lib.hid (fun h => by have h2 := Nat.le_trans (Nat.le_of_eq (show w1.heap.size + 1 = _ by simp)) (hlo _ h); omega)
  have NG : Hid (w2.heap.size ∉ bs) := Lib.hid (fun h => by have h2 := tPoint.own_lt X _ h; omega)
  clear X hnd hlo
  obtain ⟨p0, p1, p2, p3, p4, p5, p6⟩ := A2.out
  go_wp2_with fail
  refine (laws_eqPoint _ _ (encR f, encR g) _ (Ty.at_more (Ty.rd_at (tPoint.own_rd HX.out)) mC) (Ty.at_more (Ty.fresh_at FY.out) mC) HW.out).mono ?_
  rintro e w3 ⟨rfl, b3⟩
  clear p0 p1 p2 p3 p4 p5 p6
  have A3 := Lib.hid (C6.keep A2.out (More.un b3)); clear A2
  have G3 := Lib.hid (show C6 w3 w2.heap.size (.bool (decide (f.1 < 0))) (.slice g1 g2 g3) (.slice g4 g5 g6) (.bool (decide (g.1 < 0))) (.slice g7 g8 g9) (.slice g10 g11 g12) from C6.new rfl b3)
  have HM23 : Hid (More w2 w3) := Lib.hid (More.un b3)
  obtain ⟨p0, p1, p2, p3, p4, p5, p6⟩ := A3.out
  obtain ⟨q0, q1, q2, q3, q4, q5, q6⟩ := G3.out
  go_wp2_with fail
  refine (laws_markPoint_ bs _ (encR f, encR g) 1 w3 (Ty.own_more HX.out HM23.out) HND.out (by decide) (by have := HC.out; omega) HW.out).mono ?_
  rintro e w4 ⟨rfl, t4, mk4⟩
  clear p0 p1 p2 p3 p4 p5 p6 q0 q1 q2 q3 q4 q5 q6
  have A4 := Lib.hid (C6.turn A3.out t4 NA.out); clear A3
  have G4 := Lib.hid (C6.turn G3.out t4 NG.out); clear G3
  have MK := Lib.hid mk4; clear mk4
  have FY4 := Lib.hid (Ty.at_turns (Ty.fresh_at FY.out) (More.trans HMA.out HM23.out) t4 (fun k hk => Nat.le_trans (Nat.le_trans (Nat.le_succ _) (show w1.heap.size + 1 ≤ _ from Nat.le_of_eq (by simp))) (HLO.out k hk)))
  have hM4 : More W w4 := More.turn (show More W w3 from mC) t4 (fun k hk => Nat.le_trans (More.size (show More W _ from mC)) (HLO.out k hk))
  clear t4 FY HX b1 b2 b3 HMA HM23 NA NG HLO HND
  obtain ⟨p0, p1, p2, p3, p4, p5, p6⟩ := A4.out
  obtain ⟨q0, q1, q2, q3, q4, q5, q6⟩ := G4.out
  go_wp2_with fail
  refine (laws_heldPoint_ _ (encR f, encR g) 1 w4 (Ty.rd_at (tPoint.own_rd MK.out)) (by decide) (by have := HC.out; omega) HW.out).mono ?_
  rintro e w5 ⟨rfl, b5⟩
  clear p0 p1 p2 p3 p4 p5 p6 q0 q1 q2 q3 q4 q5 q6
  have A5 := Lib.hid (C6.keep A4.out b5); clear A4
  have G5 := Lib.hid (C6.keep G4.out b5); clear G4
  have k5 : ¬ ((1 : Int) + ((cPoint (encR f, encR g) : Nat) : Int) < 0) := by omega
  obtain ⟨p0, p1, p2, p3, p4, p5, p6⟩ := A5.out
  obtain ⟨q0, q1, q2, q3, q4, q5, q6⟩ := G5.out
  go_wp2_with fail
  refine (IP.out _ (HT.out.more mC)).mono ?_
  rintro e w6 ⟨h1, h2, h3, h4, h5, h6, h7, h8, h9, h10, h11, h12, rfl, b6, Fh⟩
  have FH := Lib.hid Fh; clear Fh
  clear p0 p1 p2 p3 p4 p5 p6 q0 q1 q2 q3 q4 q5 q6
  have A6 := Lib.hid (C6.keep A5.out b6); clear A5
  have G6 := Lib.hid (C6.keep G5.out b6); clear G5
  obtain ⟨p0, p1, p2, p3, p4, p5, p6⟩ := A6.out
  obtain ⟨q0, q1, q2, q3, q4, q5, q6⟩ := G6.out
  go_wp2_with fail
  refine (laws_eqPoint _ _ (encR f, encR g) _ (Ty.at_more (Ty.fresh_at FH.out) mC) (Ty.at_more FY4.out mC) HW.out).mono ?_
  rintro e w7 ⟨rfl, b7⟩
  clear p0 p1 p2 p3 p4 p5 p6 q0 q1 q2 q3 q4 q5 q6
  have A7 := Lib.hid (C6.keep A6.out (More.un b7)); clear A6
  have G7 := Lib.hid (C6.keep G6.out (More.un b7)); clear G6
  have H7 := Lib.hid (show C6 w7 w6.heap.size (.bool (decide (f.1 < 0))) (.slice h1 h2 h3) (.slice h4 h5 h6) (.bool (decide (g.1 < 0))) (.slice h7 h8 h9) (.slice h10 h11 h12) from C6.new rfl b7)
  obtain ⟨p0, p1, p2, p3, p4, p5, p6⟩ := A7.out
  obtain ⟨q0, q1, q2, q3, q4, q5, q6⟩ := G7.out
  obtain ⟨r0, r1, r2, r3, r4, r5, r6⟩ := H7.out
  go_wp2_with fail
  refine (laws_heldPoint_ _ (encR f, encR g) 1 w7 (Ty.at_more (Ty.rd_at (tPoint.own_rd MK.out)) mC) (by decide) (by have := HC.out; omega) HW.out).mono ?_
  rintro e w8 ⟨rfl, b8⟩
  go_wp2_with fail
  go_ret
  exact ⟨rfl, mC⟩
end Go.Proofs.YtnbefpfijaimjaaGreatDoor
