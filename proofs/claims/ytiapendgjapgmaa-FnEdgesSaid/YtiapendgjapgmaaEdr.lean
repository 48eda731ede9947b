/- The edge that is drawn: a valid one, whatever the code. -/
import Derived.Test.YtiapendgjapgmaaCur
import Derived.Test.YtiapendgjapgmaaEdv
import Derived.Test.YtiapendgjapgmaaThn
import Derived.Deep.RegionHeld3
namespace Go.Proofs.Ytiapendgjapgmaa
open Go.RowKit
theorem bxT {w w' : World} {g b : Nat} (t : Turns [g] w w') (hb : b < w.heap.size) (hn : b ≠ g) : w'.heap[b]? = w.heap[b]? := t.block b hb (by simp; exact hn)
theorem bxc {w w' : World} {b o : Nat} {v : Value} (h : w'.heap[b]? = w.heap[b]?) (hc : w.cell? ⟨b, o, none⟩ = some v) : w'.cell? ⟨b, o, none⟩ = some v := cell_heap hc h
theorem bxf {w w' : World} {b : Nat} (h : w'.heap[b]? = w.heap[b]?) (hf : ∀ j, w.frozen? ⟨b, j, none⟩ = false) (j : Nat) : w'.frozen? ⟨b, j, none⟩ = false := by
  rw [World.frozen?_of_block (w := w) (a := ⟨b, j, none⟩) h]
  exact hf j
theorem Cur.other {W : World} {n : Nat} {bv : Value} {g : Nat} {w : World} (h : Cur W n bv g w) {p : Addr} (hp : p.block ≠ g) (hW : W.heap.size ≤ p.block) (v : Value) : Cur W n bv g (w.setCell p v) := by
  have ht : Turns [p.block] w (w.setCell p v) := (Turns.refl _ w).setCell (.inl (by simp)) _
  have hb := ht.block g h.lt.2 (by simp; omega)
  obtain ⟨h1, h2, h3, h4, ⟨i, h5, h6⟩, ⟨q, h7⟩, h8⟩ := h
  refine ⟨More.turn h1 ht (by simpa using hW), h2, Nat.lt_of_lt_of_le h3 ht.size, cell_heap h4 hb, ⟨i, h5, cell_heap h6 hb⟩, ⟨q, cell_heap h7 hb⟩, fun j => ?_⟩
  rw [World.frozen?_setCell]
  exact h8 j
theorem spec_l01BelowJ (W : World) (ao : Option Addr) (cap g : Nat) (l : List Int) (k : Nat) (z : Int) (w : World) (hz : z = (k : Int)) (hv : tCode.at W [.slice ao l.length cap] l) (hl : l.length ≤ 1048576) (hc : Cur W l.length (.slice ao l.length cap) g w) (hk0 : 0 < k) (hk1 : k ≤ 256) :
    Calls Try.prog 46 #[.pointer (some ⟨g, 0, none⟩), .int .i64 z] w fun e w' => ∃ x : Nat, x < k ∧ e = .returned (.int .i64 x) ∧ Cur W l.length (.slice ao l.length cap) g w' ∧ Turns [g] w w' := by
  subst hz
  exact spec_l01Below W ao cap g l k w hv hl hc hk0 hk1
set_option maxHeartbeats 800000 in
theorem spec_l01Once2 (W : World) (ao : Option Addr) (cap g : Nat) (l : List Int) (w : World) (hv : tCode.at W [.slice ao l.length cap] l) (hl : l.length ≤ 1048576) (hc : Cur W l.length (.slice ao l.length cap) g w) :
    Calls Try.prog 47 #[.pointer (some ⟨g, 0, none⟩), .int .i64 2] w fun e w' => ∃ b : Bool, e = .returned (.bool b) ∧ Cur W l.length (.slice ao l.length cap) g w' ∧ Turns [g] w w' := by
  have HV := Lib.hid hv; have HL := Lib.hid hl; have HC := Lib.hid hc; clear hv hl hc
  go_enter Try.func47, Try.ntmps47
  go_wp2_with (go_at_call 46; refine (spec_l01BelowJ W ao cap g l 2 2 _ rfl HV.out HL.out HC.out (by decide) (by decide)).mono ?_; rintro e w1 ⟨x, hx, rfl, C1, T1⟩; have HC1 := Lib.hid C1; have HT1 := Lib.hid T1; clear C1 T1)
  go_ret
  exact ⟨_, rfl, HC1.out, HT1.out⟩
set_option maxHeartbeats 1600000 in
theorem spec_l05Vec (W : World) (ao : Option Addr) (cap g : Nat) (l : List Int) (w : World) (hv : tCode.at W [.slice ao l.length cap] l) (hl : l.length ≤ 1048576) (hc : Cur W l.length (.slice ao l.length cap) g w) :
    Calls Try.prog 45 #[.pointer (some ⟨g, 0, none⟩)] w fun e w' => ∃ x y : Nat, (x < 21 ∧ y < 21) ∧ e = .returned (.agg #[.int .i64 ((x : Int) - 10), .int .i64 ((y : Int) - 10)]) ∧ Cur W l.length (.slice ao l.length cap) g w' ∧ Turns [g] w w' := by
  have HV := Lib.hid hv; have HL := Lib.hid hl; have HC := Lib.hid hc; clear hv hl hc
  have hg : g < w.heap.size := HC.out.lt.2
  have hgn : w.heap.size ≠ g := by omega
  go_enter Try.func45, Try.ntmps45
  go_wp2_with (first | (go_at_call 46; (with_reducible refine (spec_l01BelowJ W ao cap g l 21 21 w1 rfl HV.out HL.out HC1.out (by decide) (by decide)).mono ?_); rintro e w2 ⟨y, hy, rfl, C2, T2⟩; have HC2 := Lib.hid C2; have hk2 := bxT T2 hs1 hgn; have r0 := bxc hk2 q0; have r1 := bxc hk2 q1; have rf := bxf hk2 qf; have HT2 := Lib.hid T2; clear C2 T2 q0 q1 qf) | (go_at_call 46; (with_reducible refine (spec_l01BelowJ W ao cap g l 21 21 _ rfl HV.out HL.out (HC.out.more mC) (by decide) (by decide)).mono ?_); rintro e w1 ⟨x, hx, rfl, C1, T1⟩; have HC1 := Lib.hid C1; have hk1 := bxT T1 (b := w.heap.size) (by simp) hgn; have q0 := bxc hk1 (box_new rfl (More.refl _) 0); have q1 := bxc hk1 (box_new rfl (More.refl _) 1); have qf := bxf hk1 (fun j => box_free rfl (More.refl _) j); have hs1 : w.heap.size < w1.heap.size := (by have := T1.size; simp at this; omega); have HT1 := Lib.hid T1; clear C1 T1))
  refine bodyPost_ret (v := .agg #[.int .i64 ((x : Int) - 10), .int .i64 ((y : Int) - 10)]) ?_ rfl ?_
  · simp [results, Try.results45, go_sem, *]
  · have hgW : W.heap.size ≤ w.heap.size := by have := HC.out.lt; omega
    exact ⟨x, y, ⟨hx, hy⟩, rfl, (HC2.out.other (p := ⟨w.heap.size, 0, none⟩) hgn hgW _).other (p := ⟨w.heap.size, 1, none⟩) hgn hgW _, ((((((Turns.refl _ w).alloc _).trans HT1.out).trans HT2.out).setCell (.inr (by simp)) _).setCell (.inr (by simp)) _)⟩
/-- What holds while an edge is being put together: the cursor, the corner's box, the result's box. -/
def SE (W : World) (n : Nat) (bv : Value) (g n2 n3 : Nat) (a1 a2 : Int) (w : World) : Prop :=
  Cur W n bv g w ∧ (n2 < w.heap.size ∧ n3 < w.heap.size) ∧ (w.cell? ⟨n3, 0, none⟩ = some (.int .i64 a1) ∧ w.cell? ⟨n3, 1, none⟩ = some (.int .i64 a2)) ∧
    (w.cell? ⟨n2, 0, none⟩ = some (.int .i64 0) ∧ w.cell? ⟨n2, 1, none⟩ = some (.int .i64 0) ∧ w.cell? ⟨n2, 2, none⟩ = some (.int .i64 0) ∧ w.cell? ⟨n2, 3, none⟩ = some (.int .i64 0) ∧ w.cell? ⟨n2, 4, none⟩ = some (.int .i64 0) ∧ w.cell? ⟨n2, 5, none⟩ = some (.bool false)) ∧ ∀ j, w.frozen? ⟨n2, j, none⟩ = false
theorem SE.turn {W : World} {n : Nat} {bv : Value} {g n2 n3 : Nat} {a1 a2 : Int} {w w' : World} (h : SE W n bv g n2 n3 a1 a2 w) (hc : Cur W n bv g w') (t : Turns [g] w w') (k2 : n2 ≠ g) (k3 : n3 ≠ g) : SE W n bv g n2 n3 a1 a2 w' := by
  obtain ⟨_, ⟨s2, s3⟩, ⟨c0, c1⟩, ⟨d0, d1, d2, d3, d4, d5⟩, hf⟩ := h
  have h2 := bxT t s2 k2
  have h3 := bxT t s3 k3
  have := t.size
  exact ⟨hc, ⟨by omega, by omega⟩, ⟨bxc h3 c0, bxc h3 c1⟩, ⟨bxc h2 d0, bxc h2 d1, bxc h2 d2, bxc h2 d3, bxc h2 d4, bxc h2 d5⟩, bxf h2 hf⟩
theorem SE.drew {W : World} {n : Nat} {bv : Value} {g n2 n3 : Nat} {a1 a2 : Int} {w : World} (h : SE W n bv g n2 n3 a1 a2 w) : SE W n bv g n2 n3 a1 a2 w.drew :=
  ⟨h.1.more (Turns.more ((Turns.refl [] w).drew)), h.2⟩
theorem SE.cur {W : World} {n : Nat} {bv : Value} {g n2 n3 : Nat} {a1 a2 : Int} {w : World} (h : SE W n bv g n2 n3 a1 a2 w) : Cur W n bv g w := And.left h
def S2 (W : World) (n : Nat) (bv : Value) (g n2 n3 : Nat) (a1 a2 : Int) (w : World) : Prop :=
  Cur W n bv g w ∧ (n2 < w.heap.size ∧ n3 < w.heap.size) ∧ (w.cell? ⟨n3, 0, none⟩ = some (.int .i64 a1) ∧ w.cell? ⟨n3, 1, none⟩ = some (.int .i64 a2))
theorem SE.weak {W : World} {n : Nat} {bv : Value} {g n2 n3 : Nat} {a1 a2 : Int} {w : World} (h : SE W n bv g n2 n3 a1 a2 w) : S2 W n bv g n2 n3 a1 a2 w := ⟨h.1, h.2.1, h.2.2.1⟩
theorem S2.more {W : World} {n : Nat} {bv : Value} {g n2 n3 : Nat} {a1 a2 : Int} {w : World} (h : S2 W n bv g n2 n3 a1 a2 w) : More W w := h.1.1
theorem S2.set {W : World} {n : Nat} {bv : Value} {g n2 n3 : Nat} {a1 a2 : Int} {w : World} (k2 : n2 ≠ g) (k3 : n2 ≠ n3) (hW : W.heap.size ≤ n2) (o : Nat) (v : Value) (h : S2 W n bv g n2 n3 a1 a2 w) : S2 W n bv g n2 n3 a1 a2 (w.setCell ⟨n2, o, none⟩ v) := by
  obtain ⟨h1, ⟨h2, h3⟩, h4, h5⟩ := h
  have ht : Turns [n2] w (w.setCell ⟨n2, o, none⟩ v) := (Turns.refl _ w).setCell (.inl (by simp)) _
  have hb := ht.block n3 h3 (by simp; omega)
  exact ⟨h1.other (p := ⟨n2, o, none⟩) k2 hW v, ⟨Nat.lt_of_lt_of_le h2 ht.size, Nat.lt_of_lt_of_le h3 ht.size⟩, bxc hb h4, bxc hb h5⟩
set_option maxRecDepth 4000 in
set_option maxHeartbeats 3200000 in
theorem spec_l12Edge (W : World) (ao : Option Addr) (cap g : Nat) (l : List Int) (w : World) (hv : tCode.at W [.slice ao l.length cap] l) (hl : l.length ≤ 1048576) (hc : Cur W l.length (.slice ao l.length cap) g w) :
    Calls Try.prog 20 #[.pointer (some ⟨g, 0, none⟩)] w fun e' w' => ∃ e : QE, edgeOk e = true ∧ e' = .returned (.agg #[.int .i64 e.1.1, .int .i64 e.1.2, .int .i64 e.2.1.1, .int .i64 e.2.1.2, .int .i64 e.2.2.1, .bool e.2.2.2]) ∧ More W w' := by
  have HV := Lib.hid hv; have HL := Lib.hid hl; have HC := Lib.hid hc; clear hv hl hc
  have hg : g < w.heap.size := HC.out.lt.2
  have hgn : w.heap.size ≠ g := by omega
  go_enter Try.func20, Try.ntmps20
  go_wp2_with (go_at_call 45; refine (spec_l05Vec W ao cap g l _ HV.out HL.out (HC.out.more mC)).mono ?_; rintro e w1 ⟨x, y, hxy, rfl, C1, T1⟩; have HC1 := Lib.hid C1; have HT1 := Lib.hid T1; clear C1 T1; obtain ⟨a1, ha1⟩ : ∃ a1, a1 = (x : Int) - 10 := ⟨_, rfl⟩; obtain ⟨a2, ha2⟩ : ∃ a2, a2 = (y : Int) - 10 := ⟨_, rfl⟩; rw [← ha1, ← ha2]; have hab : (-10 ≤ a1 ∧ a1 ≤ 10) ∧ (-10 ≤ a2 ∧ a2 ≤ 10) := (by omega); have HAB := Lib.hid hab; clear ha1 ha2 hxy hab)
  have hs1 : w.heap.size < w1.heap.size := by have := HT1.out.size; simp at this; omega
  have hgn1 : w1.heap.size ≠ g := by omega
  have hk := bxT HT1.out (b := w.heap.size) (by simp) hgn
  have q := bx6 w.heap.size rfl (More.refl (w.alloc (.cells #[.int .i64 0, .int .i64 0, .int .i64 0, .int .i64 0, .int .i64 0, .bool false] 26)))
  have hm1 : More w1 (w1.alloc (.cells #[.int .i64 a1, .int .i64 a2] 24)) := Turns.more ((Turns.refl [] _).alloc _)
  have hk1 := hm1.block _ hs1
  have HS2 : SE W l.length (.slice ao l.length cap) g w.heap.size w1.heap.size a1 a2 (w1.alloc (.cells #[.int .i64 a1, .int .i64 a2] 24)) :=
    ⟨HC1.out.more hm1, ⟨by simp; omega, by simp⟩, ⟨box_new rfl (More.refl _) 0, box_new rfl (More.refl _) 1⟩, ⟨bxc hk1 (bxc hk q.1), bxc hk1 (bxc hk q.2.1), bxc hk1 (bxc hk q.2.2.1), bxc hk1 (bxc hk q.2.2.2.1), bxc hk1 (bxc hk q.2.2.2.2.1), bxc hk1 (bxc hk q.2.2.2.2.2.1)⟩, bxf hk1 (bxf hk q.2.2.2.2.2.2)⟩
  clear hk q hk1 hm1
  have RS := fun (w' : World) (h : S2 W l.length (.slice ao l.length cap) g w.heap.size w1.heap.size a1 a2 w') => h.2.2
  have hw1 : IntKind.i64.wrap (a1 + 1) = a1 + 1 := IntWalk.i64_in _ (by have := HAB.out; omega)
  have hn23 : w.heap.size ≠ w1.heap.size := by omega
  have hgW : W.heap.size ≤ w.heap.size := by have := HC.out.lt; omega
  go_region_held3 (fun w' => S2 W l.length (.slice ao l.length cap) g w.heap.size w1.heap.size a1 a2 w') (first | (with_reducible exact SE.weak HS5) | (with_reducible exact SE.weak HS4) | (with_reducible exact SE.weak HS3) | (with_reducible exact SE.weak HS2) | (with_reducible exact SE.weak (SE.drew HS5)) | (with_reducible exact SE.weak (SE.drew HS4)) | (with_reducible exact SE.weak (SE.drew HS3)) | (with_reducible exact SE.weak (SE.drew HS2)) | ((repeat with_reducible refine S2.set hgn hn23 hgW _ _ ?_); (first | (with_reducible exact SE.weak HS5) | (with_reducible exact SE.weak (SE.drew HS5))))) (first | (go_at_call 47; (with_reducible refine (spec_l01Once2 W ao cap g l w4 HV.out HL.out (SE.cur HS4)).mono ?_); rintro e w5 ⟨b, rfl, C5, T5⟩; have HS5 := HS4.turn C5 T5 hgn hgn1; obtain ⟨-, -, -, ⟨d0, d1, d2, d3, d4, d5⟩, hf5⟩ := id HS5; clear C5 T5) | (go_at_call 46; (with_reducible refine (spec_l01BelowJ W ao cap g l 15 15 w3 rfl HV.out HL.out (SE.cur HS3) (by decide) (by decide)).mono ?_); rintro e w4 ⟨t, ht, rfl, C4, T4⟩; have HS4 := HS3.turn C4 T4 hgn hgn1; have hw4 : IntKind.i64.wrap ((t : Int) - 7) = t - 7 := IntWalk.i64_in _ (by omega); clear C4 T4) | (go_at_call 46; (with_reducible refine (spec_l01BelowJ W ao cap g l 9 9 _ rfl HV.out HL.out (SE.cur HS2) (by decide) (by decide)).mono ?_); rintro e w3 ⟨z, hz, rfl, C3, T3⟩; have HS3 := (HS2).turn C3 T3 hgn hgn1; have hw3 : IntKind.i64.wrap (a1 + 1 + (z : Int)) = a1 + 1 + z := IntWalk.i64_in _ (by have := HAB.out; omega); clear C3 T3) | (go_at_call 46; (with_reducible refine (spec_l01BelowJ W ao cap g l 9 9 _ rfl HV.out HL.out (SE.cur (SE.drew HS2)) (by decide) (by decide)).mono ?_); rintro e w3 ⟨z, hz, rfl, C3, T3⟩; have HS3 := (SE.drew HS2).turn C3 T3 hgn hgn1; have hw3 : IntKind.i64.wrap (a1 + 1 + (z : Int)) = a1 + 1 + z := IntWalk.i64_in _ (by have := HAB.out; omega); clear C3 T3) | (go_at_call 46; (with_reducible refine (spec_l01BelowJ W ao cap g l 9 9 _ rfl HV.out HL.out (SE.cur (SE.drew (SE.drew HS2))) (by decide) (by decide)).mono ?_); rintro e w3 ⟨z, hz, rfl, C3, T3⟩; have HS3 := (SE.drew (SE.drew HS2)).turn C3 T3 hgn hgn1; have hw3 : IntKind.i64.wrap (a1 + 1 + (z : Int)) = a1 + 1 + z := IntWalk.i64_in _ (by have := HAB.out; omega); clear C3 T3))
  all_goals
    go_wp2_with fail
    refine bodyPost_ret (v := .agg #[.int .i64 a1, .int .i64 a2, .int .i64 (a1 + 1 + (z : Int)), .int .i64 ((t : Int) - 7), .int .i64 0, .bool b]) ?_ rfl ?_
    · simp [results, Try.results20, go_sem, *]
    · have hok : edgeOk ((a1, a2), (a1 + 1 + (z : Int), (t : Int) - 7), 0, b) = true := by
        have := HAB.out
        unfold edgeOk
        rw [Bool.and_eq_true, Bool.and_eq_true, isV_iff, isV_iff, decide_eq_true_eq]
        refine ⟨⟨?_, ?_⟩, ?_⟩ <;> simp only <;> omega
      refine ⟨((a1, a2), (a1 + 1 + (z : Int), (t : Int) - 7), 0, b), hok, rfl, S2.more (n := l.length) (bv := .slice ao l.length cap) (g := g) (n2 := w.heap.size) (n3 := w1.heap.size) (a1 := a1) (a2 := a2) ?_⟩
      repeat with_reducible refine S2.set hgn hn23 hgW _ _ ?_
      first | (with_reducible exact SE.weak HS5) | (with_reducible exact SE.weak (SE.drew HS5)) | (with_reducible exact SE.weak (SE.drew (SE.drew HS5)))
set_option maxRecDepth 4000 in
set_option maxHeartbeats 1600000 in
theorem spec_MakeEdge (ao : Option Addr) (cap : Nat) (l : List Int) (m : Nat) (z : Int) (w : World) (hz : z = (m : Int)) (hv : tCode.at w [.slice ao l.length cap] l) (hl : l.length ≤ 1048576) (hm : m ≤ 100) :
    Calls Try.prog 5 #[.slice ao l.length cap, .int .i64 z] w fun e' w' => ∃ e : QE, edgeOk e = true ∧ e' = .returned (.agg #[.int .i64 e.1.1, .int .i64 e.1.2, .int .i64 e.2.1.1, .int .i64 e.2.1.2, .int .i64 e.2.2.1, .bool e.2.2.2]) ∧ More w w' := by
  subst hz
  have HV := Lib.hid hv; have HL := Lib.hid hl; clear hv hl
  obtain ⟨m5, hm5, hw5⟩ : ∃ m5 : Nat, m5 ≤ 500 ∧ (5 : Int) * (m : Int) = (m5 : Int) := ⟨5 * m, by omega, by omega⟩
  go_enter Try.func5, Try.ntmps5
  go_wp2_with (first | (go_at_call 21; refine (spec_l31New ao cap l m5 _ (Ty.at_more HV.out mC) HL.out (by omega)).mono ?_; rintro e w1 ⟨g, rfl, C1, hb1⟩; have HC1 := Lib.hid C1; clear C1) | (go_at_call 20; refine (spec_l12Edge _ ao cap g l _ (Ty.at_more HV.out mC) HL.out HC1.out).mono ?_; rintro e w2 ⟨q, hq, rfl, hb2⟩; obtain ⟨d0, d1, d2, d3, d4, d5, df⟩ := bx6 w.heap.size rfl hb2))
  refine bodyPost_ret (v := .agg #[.int .i64 q.1.1, .int .i64 q.1.2, .int .i64 q.2.1.1, .int .i64 q.2.1.2, .int .i64 q.2.2.1, .bool q.2.2.2]) ?_ rfl ?_
  · simp [results, Try.results5, go_sem, *]
  · exact ⟨q, hq, rfl, mC2⟩
end Go.Proofs.Ytiapendgjapgmaa
