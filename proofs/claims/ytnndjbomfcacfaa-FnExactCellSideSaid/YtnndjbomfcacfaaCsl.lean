/- The side of a cell: two results in new memory, each with blocks of its own; the boxes that a statement makes for them. -/
import Derived.Test.YtnndjbomfcacfaaCsd
import Derived.Test.YtnndjbomfcacfaaBx
namespace Go.Proofs.Ytnndjbomfcacfaa
open Go.RowKit
def Pair (B : Nat) (w : World) (b1 u1 v1 : Value) (r1 : QR) (b2 u2 v2 : Value) (r2 : QR) : Prop := ∃ bs1 bs2, tRat.own bs1 w [b1, u1, v1] r1 ∧ tRat.own bs2 w [b2, u2, v2] r2 ∧ bs1.Nodup ∧ bs2.Nodup ∧ (∀ k ∈ bs1, k ∉ bs2) ∧ (∀ k ∈ bs1, B ≤ k) ∧ (∀ k ∈ bs2, B ≤ k)
theorem pair_of {B : Nat} {w : World} {b1 u1 v1 b2 u2 v2 : Value} {r1 r2 : QR} (h : tPoint.fresh B w [b1, u1, v1, b2, u2, v2] (r1, r2)) : Pair B w b1 u1 v1 r1 b2 u2 v2 r2 := by
  obtain ⟨bs, hv, hnd, hlo⟩ := h
  obtain ⟨b, d, c, e, rfl, e9, g0, g1⟩ := hv
  have h3 : c.length = 3 := tRat.len (tRat.own_rd g0)
  obtain ⟨x1, x2, x3, rfl⟩ : ∃ x1 x2 x3, c = [x1, x2, x3] := by
    match c, h3 with
    | [x1, x2, x3], _ => exact ⟨x1, x2, x3, rfl⟩
  simp only [List.cons_append, List.nil_append, List.cons.injEq] at e9
  obtain ⟨rfl, rfl, rfl, rfl⟩ := e9
  rw [List.nodup_append] at hnd
  obtain ⟨n1, n2, dj⟩ := hnd
  exact ⟨b, d, g0, g1, n1, n2, fun k hk hk' => dj k hk k hk' rfl, fun k hk => hlo k (List.mem_append_left _ hk), fun k hk => hlo k (List.mem_append_right _ hk)⟩
def Two (w0 W : World) (p q : Nat) (b1 u1 v1 : Value) (r1 : QR) (b2 u2 v2 : Value) (r2 : QR) : Prop := More w0 W ∧ w0.heap.size ≤ p ∧ w0.heap.size ≤ q ∧ p ≠ q ∧ Box3 W p b1 u1 v1 ∧ Box3 W q b2 u2 v2 ∧
  Hid (∃ bs1 bs2, tRat.own bs1 W [b1, u1, v1] r1 ∧ tRat.own bs2 W [b2, u2, v2] r2 ∧ bs1.Nodup ∧ bs2.Nodup ∧ (∀ k ∈ bs1, k ∉ bs2) ∧ (∀ k ∈ bs1, w0.heap.size ≤ k) ∧ (∀ k ∈ bs2, w0.heap.size ≤ k) ∧ True)
theorem Box3.turnB {w w' : World} {B : Nat} {bs : List Nat} {x y z : Value} (h : Box3 w B x y z) (ht : Turns bs w w') (hb : B ∉ bs) : Box3 w' B x y z :=
  ⟨(h.turn ht hb).1, (h.turn ht hb).2.1, (h.turn ht hb).2.2, fun j => (World.frozen?_of_block (ht.block B h.lt hb)).trans (h.fr j), Nat.lt_of_lt_of_le h.lt ht.size⟩
theorem two_gen {w0 wL : World} {B : Nat} {b1 u1 v1 b2 u2 v2 : Value} {r1 r2 : QR} {W : World} {p q : Nat} (F : Pair B wL b1 u1 v1 r1 b2 u2 v2 r2) (hB : w0.heap.size ≤ B) (hW : More w0 W) (T : Turns [p, q] wL W) (hp : Box3 W p b1 u1 v1) (hq : Box3 W q b2 u2 v2) (hne : p ≠ q) (g1 : w0.heap.size ≤ p) (g2 : w0.heap.size ≤ q) (o1 : p < B ∨ wL.heap.size ≤ p) (o2 : q < B ∨ wL.heap.size ≤ q) :
    Two w0 W p q b1 u1 v1 r1 b2 u2 v2 r2 := by
  obtain ⟨c1, c2, F1, F2, n1, n2, dj, l1, l2⟩ := F
  have ok : ∀ {bs : List Nat} {cs : List Value} {r : QR}, tRat.own bs wL cs r → (∀ k ∈ bs, B ≤ k) → tRat.own bs W cs r := by
    intro bs cs r h hb
    refine Ty.own_turns h T (fun k hk hk' => ?_)
    have h1 := hb k hk; have h2 := tRat.own_lt h k hk; simp at hk'; omega
  exact ⟨hW, g1, g2, hne, hp, hq, Lib.hid ⟨c1, c2, ok F1 l1, ok F2 l2, n1, n2, dj, fun k hk => Nat.le_trans hB (l1 k hk), fun k hk => Nat.le_trans hB (l2 k hk), trivial⟩⟩
theorem set3_turns (w : World) (p : Nat) (b u v : Value) (bs : List Nat) (h : p ∈ bs) : Turns bs w (((w.setCell ⟨p, 0, none⟩ b).setCell ⟨p, 1, none⟩ u).setCell ⟨p, 2, none⟩ v) := (((Turns.refl bs w).setCell (.inl h) _).setCell (.inl h) _).setCell (.inl h) _
theorem two_ll1 {w0 wL : World} {B : Nat} {b1 u1 v1 b2 u2 v2 : Value} {r1 r2 : QR} {t t' : TypeId} (hm : More w0 wL) (F : Pair B wL b1 u1 v1 r1 b2 u2 v2 r2) (hB : w0.heap.size ≤ B) : Two w0 ((wL.alloc (.cells #[b1, u1, v1] t)).alloc (.cells #[b2, u2, v2] t')) wL.heap.size (wL.heap.size + 1) b1 u1 v1 r1 b2 u2 v2 r2 :=
  two_gen F hB (More.trans hm (Turns.more (((Turns.refl [] wL).alloc _).alloc _))) (((Turns.refl _ wL).alloc _).alloc _) (Box3.new rfl (More.un (More.refl _))) (Box3.new (by simp) (More.refl _)) (by omega) hm.size (Nat.le_succ_of_le hm.size) (.inr (Nat.le_refl _)) (.inr (Nat.le_succ _))
theorem two_ll2 {w0 wL : World} {B : Nat} {b1 u1 v1 b2 u2 v2 : Value} {r1 r2 : QR} {t t' : TypeId} (hm : More w0 wL) (F : Pair B wL b1 u1 v1 r1 b2 u2 v2 r2) (hB : w0.heap.size ≤ B) : Two w0 ((wL.alloc (.cells #[b2, u2, v2] t)).alloc (.cells #[b1, u1, v1] t')) (wL.heap.size + 1) wL.heap.size b1 u1 v1 r1 b2 u2 v2 r2 :=
  two_gen F hB (More.trans hm (Turns.more (((Turns.refl [] wL).alloc _).alloc _))) (((Turns.refl _ wL).alloc _).alloc _) (Box3.new (by simp) (More.refl _)) (Box3.new rfl (More.un (More.refl _))) (by omega) (Nat.le_succ_of_le hm.size) hm.size (.inr (Nat.le_succ _)) (.inr (Nat.le_refl _))
theorem two_el {w0 wL : World} {B : Nat} {b1 u1 v1 b2 u2 v2 : Value} {r1 r2 : QR} {t : TypeId} {p : Nat} {x y z : Value} (hm : More w0 wL) (F : Pair B wL b1 u1 v1 r1 b2 u2 v2 r2) (hB : w0.heap.size ≤ B) (hp : Box3 wL p x y z) (g1 : w0.heap.size ≤ p) (o1 : p < B) : Two w0 ((((wL.setCell ⟨p, 0, none⟩ b1).setCell ⟨p, 1, none⟩ u1).setCell ⟨p, 2, none⟩ v1).alloc (.cells #[b2, u2, v2] t)) p wL.heap.size b1 u1 v1 r1 b2 u2 v2 r2 :=
  have m1 := Turns.more (((Turns.refl [] (((wL.setCell ⟨p, 0, none⟩ b1).setCell ⟨p, 1, none⟩ u1).setCell ⟨p, 2, none⟩ v1))).alloc (.cells #[b2, u2, v2] t))
  two_gen F hB (More.trans (Box3.more hm g1) m1) ((set3_turns wL p b1 u1 v1 _ (by simp)).alloc _) (hp.set.keep m1) (Box3.new (by simp) (More.refl _)) (by have := hp.lt; omega) g1 hm.size (.inl o1) (.inr (Nat.le_refl _))
theorem two_le {w0 wL : World} {B : Nat} {b1 u1 v1 b2 u2 v2 : Value} {r1 r2 : QR} {t : TypeId} {q : Nat} {x y z : Value} (hm : More w0 wL) (F : Pair B wL b1 u1 v1 r1 b2 u2 v2 r2) (hB : w0.heap.size ≤ B) (hq : Box3 wL q x y z) (g1 : w0.heap.size ≤ q) (o1 : q < B) : Two w0 ((((wL.setCell ⟨q, 0, none⟩ b2).setCell ⟨q, 1, none⟩ u2).setCell ⟨q, 2, none⟩ v2).alloc (.cells #[b1, u1, v1] t)) wL.heap.size q b1 u1 v1 r1 b2 u2 v2 r2 :=
  have m1 := Turns.more (((Turns.refl [] (((wL.setCell ⟨q, 0, none⟩ b2).setCell ⟨q, 1, none⟩ u2).setCell ⟨q, 2, none⟩ v2))).alloc (.cells #[b1, u1, v1] t))
  two_gen F hB (More.trans (Box3.more hm g1) m1) ((set3_turns wL q b2 u2 v2 _ (by simp)).alloc _) (Box3.new (by simp) (More.refl _)) (hq.set.keep m1) (by have := hq.lt; omega) hm.size g1 (.inr (Nat.le_refl _)) (.inl o1)
theorem two_ee {w0 wL : World} {B : Nat} {b1 u1 v1 b2 u2 v2 : Value} {r1 r2 : QR} {p q : Nat} {x y z x' y' z' : Value} (hm : More w0 wL) (F : Pair B wL b1 u1 v1 r1 b2 u2 v2 r2) (hB : w0.heap.size ≤ B) (hp : Box3 wL p x y z) (hq : Box3 wL q x' y' z') (hne : p ≠ q) (g1 : w0.heap.size ≤ p) (g2 : w0.heap.size ≤ q) (o1 : p < B) (o2 : q < B) : Two w0 ((((((wL.setCell ⟨p, 0, none⟩ b1).setCell ⟨p, 1, none⟩ u1).setCell ⟨p, 2, none⟩ v1).setCell ⟨q, 0, none⟩ b2).setCell ⟨q, 1, none⟩ u2).setCell ⟨q, 2, none⟩ v2) p q b1 u1 v1 r1 b2 u2 v2 r2 :=
  two_gen F hB (Box3.more (Box3.more hm g1) g2) ((set3_turns wL p b1 u1 v1 _ (by simp)).trans (set3_turns _ q b2 u2 v2 _ (by simp))) (hp.set.turnB (set3_turns _ q b2 u2 v2 [q] (by simp)) (by simp; omega)) (hq.turnB (set3_turns wL p b1 u1 v1 [p] (by simp)) (by simp; omega)).set hne g1 g2 (.inl o1) (.inl o2)
theorem two_sh {B : Nat} {w : World} {x y : Bool} {u v u' v' : Value} {r1 r2 : QR} (h : tPoint.fresh B w [.bool x, u, v, .bool y, u', v'] (r1, r2)) : ∃ (a1 : Option Addr) (n1 c1 : Nat) (d1 : Option Addr) (m1 e1 : Nat) (a2 : Option Addr) (n2 c2 : Nat) (d2 : Option Addr) (m2 e2 : Nat), u = .slice a1 n1 c1 ∧ v = .slice d1 m1 e1 ∧ u' = .slice a2 n2 c2 ∧ v' = .slice d2 m2 e2 := by
  obtain ⟨a1, n1, c1, a2, n2, c2, a4, n4, c4, a5, n5, c5, e9⟩ := sh_Point (Ty.fresh_at h)
  simp only [List.cons.injEq, and_true] at e9
  obtain ⟨_, rfl, rfl, _, rfl, rfl⟩ := e9
  exact ⟨_, _, _, _, _, _, _, _, _, _, _, _, rfl, rfl, rfl, rfl⟩
theorem impl_CellSideL (cs0 : List Value) (k : QCell) (cs1 : List Value) (p : QR) (w : World) (hv0 : tCell.at w cs0 k) (hw0 : wCell k ≤ 1048576) (hv1 : tRat.at w cs1 p) (hw1 : wRat p ≤ 1048576) (r1 r2 : QR) (f : Bool) (e1 : r1 = (csF k p).1) (e2 : r2 = (csF k p).2.1) (e3 : f = (csF k p).2.2) :
    Calls Try.prog 21 #[.agg cs0.toArray, .agg cs1.toArray] w fun e w' => ∃ (a1 : Option Addr) (n1 c1 : Nat) (d1 : Option Addr) (m1 e1 : Nat) (a2 : Option Addr) (n2 c2 : Nat) (d2 : Option Addr) (m2 e2 : Nat), e = .returned (.tuple #[.agg #[.bool r1.1.1, .slice a1 n1 c1, .slice d1 m1 e1], .agg #[.bool r2.1.1, .slice a2 n2 c2, .slice d2 m2 e2], .bool f]) ∧ More w w' ∧
      Pair w.heap.size w' (.bool r1.1.1) (.slice a1 n1 c1) (.slice d1 m1 e1) r1 (.bool r2.1.1) (.slice a2 n2 c2) (.slice d2 m2 e2) r2 := by
  obtain ⟨m1, m2, m3, m4, m5, m6⟩ := k
  refine (impl_CellSide cs0 m1 m2 m3 m4 m5 m6 cs1 p r1 r2 f w hv0 hw0 hv1 hw1 (by rw [e1, e2, e3])).mono ?_
  rintro e w' ⟨u, v, u', v', rfl, h1, h2⟩
  obtain ⟨q1, q2, q3, q4, q5, q6, q7, q8, q9, q10, q11, q12, rfl, rfl, rfl, rfl⟩ := two_sh h2
  exact ⟨_, _, _, _, _, _, _, _, _, _, _, _, rfl, h1, pair_of h2⟩
theorem spec_CellSideL (cs0 : List Value) (k : QCell) (cs1 : List Value) (p : QR) (w : World) (hv0 : tCell.at w cs0 k) (hw0 : wCell k ≤ 1048576) (hv1 : tRat.at w cs1 p) (hw1 : wRat p ≤ 1048576) (r1 r2 : QR) (f : Bool) (e1 : r1 = (csF k p).1) (e2 : r2 = (csF k p).2.1) (e3 : f = (csF k p).2.2) :
    Calls Try.prog 18 #[.agg cs0.toArray, .agg cs1.toArray] w fun e w' => ∃ (a1 : Option Addr) (n1 c1 : Nat) (d1 : Option Addr) (m1 e1 : Nat) (a2 : Option Addr) (n2 c2 : Nat) (d2 : Option Addr) (m2 e2 : Nat), e = .returned (.tuple #[.agg #[.bool r1.1.1, .slice a1 n1 c1, .slice d1 m1 e1], .agg #[.bool r2.1.1, .slice a2 n2 c2, .slice d2 m2 e2], .bool f]) ∧ More w w' ∧
      Pair w.heap.size w' (.bool r1.1.1) (.slice a1 n1 c1) (.slice d1 m1 e1) r1 (.bool r2.1.1) (.slice a2 n2 c2) (.slice d2 m2 e2) r2 := by
  obtain ⟨m1, m2, m3, m4, m5, m6⟩ := k
  refine (spec_CellSide cs0 m1 m2 m3 m4 m5 m6 cs1 p r1 r2 f w hv0 hw0 hv1 hw1 (by rw [e1, e2, e3])).mono ?_
  rintro e w' ⟨u, v, u', v', rfl, h1, h2⟩
  obtain ⟨q1, q2, q3, q4, q5, q6, q7, q8, q9, q10, q11, q12, rfl, rfl, rfl, rfl⟩ := two_sh h2
  exact ⟨_, _, _, _, _, _, _, _, _, _, _, _, rfl, h1, pair_of h2⟩
theorem csF_w1 {k : QCell} {x : QR} (hw : wCell k ≤ 1048576) : wRat (csF k x).1 ≤ 1048576 := (csF_w (k := k) (x := x) (lo := (csF k x).1) (hi := (csF k x).2.1) (ok := (csF k x).2.2) rfl hw).1
theorem csF_w2 {k : QCell} {x : QR} (hw : wCell k ≤ 1048576) : wRat (csF k x).2.1 ≤ 1048576 := (csF_w (k := k) (x := x) (lo := (csF k x).1) (hi := (csF k x).2.1) (ok := (csF k x).2.2) rfl hw).2
theorem calls_arg {P : Program} {f : FuncId} {v V : Value} {w : World} {R : Ending → World → Prop} (h : v = V) (c : Calls P f #[v] w R) : Calls P f #[V] w R := h ▸ c
end Go.Proofs.Ytnndjbomfcacfaa
