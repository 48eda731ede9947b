/- The point and the vector that are drawn: small ones, whatever the code. -/
import Derived.Test.YtnbefpfijaimjaaGreatDoorCur
import Derived.Test.YtnbefpfijaimjaaGreatDoorGPnt
import Derived.Test.YtnbefpfijaimjaaGreatDoorGInt
import Derived.Test.YtnbefpfijaimjaaGreatDoorGSra
import Derived.Test.YtnbefpfijaimjaaGreatDoorCsd
import Derived.Test.YtnbefpfijaimjaaGreatDoorGRt
import Derived.Test.YtnbefpfijaimjaaGreatDoorPgl
import Derived.Deep.RegionHeld3
namespace Go.Proofs.YtnbefpfijaimjaaGreatDoor
open Go.RowKit
theorem bxT {w w' : World} {g b : Nat} (t : Turns [g] w w') (hb : b < w.heap.size) (hn : b ≠ g) : w'.heap[b]? = w.heap[b]? := t.block b hb (by simp; exact hn)
theorem bxc {w w' : World} {b o : Nat} {v : Value} (h : w'.heap[b]? = w.heap[b]?) (hc : w.cell? ⟨b, o, none⟩ = some v) : w'.cell? ⟨b, o, none⟩ = some v := cell_heap hc h
theorem bxf {w w' : World} {b : Nat} (h : w'.heap[b]? = w.heap[b]?) (hf : ∀ j, w.frozen? ⟨b, j, none⟩ = false) (j : Nat) : w'.frozen? ⟨b, j, none⟩ = false := by
  rw [World.frozen?_of_block (w := w) (a := ⟨b, j, none⟩) h]
  exact hf j
theorem Cur.other {W : World} {n : Nat} {bv : Value} {g : Nat} {w : World} (h : Cur W n bv g w) {p : Addr} (hp : p.block ≠ g) (hW : W.heap.size ≤ p.block) (v : Value) : Cur W n bv g (w.setCell p v) := by
  have ht : Turns [p.block] w (w.setCell p v) := (Turns.refl _ w).setCell (.inl (by simp)) _
  have hb := ht.block g h.lt.2 (by simp; omega)
  obtain ⟨h1, h2, h3, h4, ⟨i, h5, h6⟩, ⟨q, h7⟩, h8⟩ := h
  refine ⟨More.turn h1 ht (by simpa using hW), h2, Nat.lt_of_lt_of_le h3 ht.size, cell_heap h4 hb, ⟨i, h5, cell_heap h6 hb⟩, ⟨q, cell_heap h7 hb⟩, fun j => ?_⟩
  rw [World.frozen?_setCell]
  exact h8 j
theorem spec_l01BelowJ (W : World) (ao : Option Addr) (cap g : Nat) (l : List Int) (k : Nat) (z : Int) (w : World) (hz : z = (k : Int)) (hv : tCode.at W [.slice ao l.length cap] l) (hl : l.length ≤ 1048576) (hc : Cur W l.length (.slice ao l.length cap) g w) (hk0 : 0 < k) (hk1 : k ≤ 256) :
    Calls Tryz.prog 58 #[.pointer (some ⟨g, 0, none⟩), .int .i64 z] w fun e w' => ∃ x : Nat, x < k ∧ e = .returned (.int .i64 x) ∧ Cur W l.length (.slice ao l.length cap) g w' ∧ Turns [g] w w' := by
  subst hz
  exact spec_l01Below W ao cap g l k w hv hl hc hk0 hk1
set_option maxHeartbeats 800000 in
theorem spec_l01Once3 (W : World) (ao : Option Addr) (cap g : Nat) (l : List Int) (w : World) (hv : tCode.at W [.slice ao l.length cap] l) (hl : l.length ≤ 1048576) (hc : Cur W l.length (.slice ao l.length cap) g w) :
    Calls Tryz.prog 55 #[.pointer (some ⟨g, 0, none⟩), .int .i64 3] w fun e w' => ∃ b : Bool, e = .returned (.bool b) ∧ Cur W l.length (.slice ao l.length cap) g w' ∧ Turns [g] w w' := by
  have HV := Lib.hid hv; have HL := Lib.hid hl; have HC := Lib.hid hc; clear hv hl hc
  go_enter Tryz.func55, Tryz.ntmps55
  go_wp2_with (go_at_call 58; refine (spec_l01BelowJ W ao cap g l 3 3 _ rfl HV.out HL.out HC.out (by decide) (by decide)).mono ?_; rintro e w1 ⟨x, hx, rfl, C1, T1⟩; have HC1 := Lib.hid C1; have HT1 := Lib.hid T1; clear C1 T1)
  go_ret
  exact ⟨_, rfl, HC1.out, HT1.out⟩
set_option maxHeartbeats 1600000 in
theorem spec_l05Vec (W : World) (ao : Option Addr) (cap g : Nat) (l : List Int) (w : World) (hv : tCode.at W [.slice ao l.length cap] l) (hl : l.length ≤ 1048576) (hc : Cur W l.length (.slice ao l.length cap) g w) :
    Calls Tryz.prog 30 #[.pointer (some ⟨g, 0, none⟩)] w fun e w' => ∃ x y : Nat, (x < 21 ∧ y < 21) ∧ e = .returned (.agg #[.int .i64 ((x : Int) - 10), .int .i64 ((y : Int) - 10)]) ∧ Cur W l.length (.slice ao l.length cap) g w' ∧ Turns [g] w w' := by
  have HV := Lib.hid hv; have HL := Lib.hid hl; have HC := Lib.hid hc; clear hv hl hc
  have hg : g < w.heap.size := HC.out.lt.2
  have hgn : w.heap.size ≠ g := by omega
  go_enter Tryz.func30, Tryz.ntmps30
  go_wp2_with (first | (go_at_call 58; (with_reducible refine (spec_l01BelowJ W ao cap g l 21 21 w1 rfl HV.out HL.out HC1.out (by decide) (by decide)).mono ?_); rintro e w2 ⟨y, hy, rfl, C2, T2⟩; have HC2 := Lib.hid C2; have hk2 := bxT T2 hs1 hgn; have r0 := bxc hk2 q0; have r1 := bxc hk2 q1; have rf := bxf hk2 qf; have HT2 := Lib.hid T2; clear C2 T2 q0 q1 qf) | (go_at_call 58; (with_reducible refine (spec_l01BelowJ W ao cap g l 21 21 _ rfl HV.out HL.out (HC.out.more mC) (by decide) (by decide)).mono ?_); rintro e w1 ⟨x, hx, rfl, C1, T1⟩; have HC1 := Lib.hid C1; have hk1 := bxT T1 (b := w.heap.size) (by simp) hgn; have q0 := bxc hk1 (box_new rfl (More.refl _) 0); have q1 := bxc hk1 (box_new rfl (More.refl _) 1); have qf := bxf hk1 (fun j => box_free rfl (More.refl _) j); have hs1 : w.heap.size < w1.heap.size := (by have := T1.size; simp at this; omega); have HT1 := Lib.hid T1; clear C1 T1))
  refine bodyPost_ret (v := .agg #[.int .i64 ((x : Int) - 10), .int .i64 ((y : Int) - 10)]) ?_ rfl ?_
  · simp [results, Tryz.results30, go_sem, *]
  · have hgW : W.heap.size ≤ w.heap.size := by have := HC.out.lt; omega
    exact ⟨x, y, ⟨hx, hy⟩, rfl, (HC2.out.other (p := ⟨w.heap.size, 0, none⟩) hgn hgW _).other (p := ⟨w.heap.size, 1, none⟩) hgn hgW _, ((((((Turns.refl _ w).alloc _).trans HT1.out).trans HT2.out).setCell (.inr (by simp)) _).setCell (.inr (by simp)) _)⟩
set_option maxRecDepth 4000 in
set_option maxHeartbeats 3200000 in
theorem spec_BigIntOfF (n : Int) (w : World) (hr : -1000 ≤ n ∧ n ≤ 1000) :
    Calls Tryz.prog 94 #[.int .i64 n] w fun e w' => ∃ u, e = .returned (.agg #[.bool (decide (n < 0)), u]) ∧ More w w' ∧ tInts.fresh w.heap.size w' [u] (limbs n.natAbs) := by
  by_cases h0 : 0 ≤ n
  · obtain ⟨N, rfl⟩ := Int.eq_ofNat_of_zero_le h0
    have ES : Hid (decide ((N : Int) < 0) = decide (sgn false N < 0)) := Lib.hid rfl
    rw [Int.natAbs_natCast, ES.out]
    have HN : Hid (N < 9223372036854775808) := Lib.hid (by omega)
    have HL : Hid ((limbs N).length ≤ 60) := Lib.hid (by have := limbs_int (n := (N : Int)) (In64.mk (by omega)); rw [Int.natAbs_natCast] at this; omega)
    have hm' : ((N : Int) == -9223372036854775808) = false := by simp <;> omega
    have h0' : ¬ (N : Int) < 0 := by omega
    have HX := More.refl (w.alloc (.cells #[.bool false, .slice none 0 0] 24))
    have HB := fun (w' : World) (h : More (w.alloc (.cells #[.bool false, .slice none 0 0] 24)) w') => bx2 (w.heap.size) (by simp) h
    go_enter Tryz.func94, Tryz.ntmps94
    go_wp2_with (first | (go_at_call 130; (with_reducible refine (spec_NatOf N _ HN.out).mono ?_); rintro e w1 ⟨u1, rfl, hb1, g1⟩; obtain ⟨x1a, x1n, x1c, rfl⟩ := sh1 g1; have G1 := Lib.hid g1; clear g1; have HX1 := More.trans HX (show More _ w1 from mC); have HB1 := HB _ HX1; have hz1 := More.size HX1; (try simp at hz1); have hb1 := hb1) | (go_at_call 128; (with_reducible refine (spec_l03Make false _ N _ (Ty.at_more G1.out mC) HL.out).mono ?_); rintro e w2 ⟨u2, rfl, hb2, f2⟩; obtain ⟨x2a, x2n, x2c, rfl⟩ := sh1 (Ty.fresh_at f2); have G2 := Lib.hid f2; clear f2; have s1 := hb1.size; simp at s1; have HX2 := More.trans HX (show More _ w2 from mC); have HB2 := HB _ HX2; have hz2 := More.size HX2; (try simp at hz2); have hb2 := hb2))
    refine bodyPost_ret (v := .agg #[.bool (decide (sgn false N < 0)), .slice x2a x2n x2c]) ?_ rfl ⟨_, rfl, mC2, Ty.fresh_mono (Ty.fresh_turns (bs := [w.heap.size]) G2.out tC (by simp; omega)) (by omega)⟩
    simp [results, Tryz.results94, go_sem, *]
  obtain ⟨N, rfl⟩ : ∃ N : Nat, n = -(N : Int) := ⟨n.natAbs, by omega⟩
  have HN : Hid (N < 9223372036854775808) := Lib.hid (by omega)
  have HL : Hid ((limbs N).length ≤ 60) := Lib.hid (by have := limbs_int (n := (N : Int)) (In64.mk (by omega)); rw [Int.natAbs_natCast] at this; omega)
  rw [show decide (-(N : Int) < 0) = decide (sgn true N < 0) from rfl, Int.natAbs_neg, Int.natAbs_natCast]
  have hm' : (-(N : Int) == -9223372036854775808) = false := by simp <;> omega
  have h0' : -(N : Int) < 0 := by omega
  have HX := More.refl (w.alloc (.cells #[.bool false, .slice none 0 0] 24))
  have HB := fun (w' : World) (h : More (w.alloc (.cells #[.bool false, .slice none 0 0] 24)) w') => bx2 (w.heap.size) (by simp) h
  go_enter Tryz.func94, Tryz.ntmps94
  go_wp2_with (first | (go_at_call 130; (with_reducible refine (spec_NatOf N _ HN.out).mono ?_); rintro e w1 ⟨u1, rfl, hb1, g1⟩; obtain ⟨x1a, x1n, x1c, rfl⟩ := sh1 g1; have G1 := Lib.hid g1; clear g1; have HX1 := More.trans HX (show More _ w1 from mC); have HB1 := HB _ HX1; have hz1 := More.size HX1; (try simp at hz1); have hb1 := hb1) | (go_at_call 128; (with_reducible refine (spec_l03Make true _ N _ (Ty.at_more G1.out mC) HL.out).mono ?_); rintro e w2 ⟨u2, rfl, hb2, f2⟩; obtain ⟨x2a, x2n, x2c, rfl⟩ := sh1 (Ty.fresh_at f2); have G2 := Lib.hid f2; clear f2; have s1 := hb1.size; simp at s1; have HX2 := More.trans HX (show More _ w2 from mC); have HB2 := HB _ HX2; have hz2 := More.size HX2; (try simp at hz2); have hb2 := hb2))
  refine bodyPost_ret (v := .agg #[.bool (decide (sgn true N < 0)), .slice x2a x2n x2c]) ?_ rfl ⟨_, rfl, mC2, Ty.fresh_mono (Ty.fresh_turns (bs := [w.heap.size]) G2.out tC (by simp; omega)) (by omega)⟩
  simp [results, Tryz.results94, go_sem, *]
set_option maxRecDepth 4000 in
set_option maxHeartbeats 3200000 in
theorem spec_RatFromIntF (n : Int) (w : World) (hn : -1000 ≤ n ∧ n ≤ 1000) :
    Calls Tryz.prog 91 #[.int .i64 n] w fun e w' => ∃ u v, e = .returned (.agg #[.bool (decide ((frInt n).1 < 0)), u, v]) ∧ More w w' ∧ RatFr w.heap.size w' (frInt n) u v := by
  have HN := Lib.hid hn; clear hn
  show Calls _ _ _ _ (fun e w' => ∃ u v, e = .returned (.agg #[.bool (decide (n < 0)), u, v]) ∧ More w w' ∧ tRat.fresh w.heap.size w' [.bool (decide (n < 0)), u, v] ((decide (n < 0), limbs n.natAbs), limbs 1))
  obtain ⟨s, zs⟩ : ∃ b, decide (n < 0) = b := ⟨_, rfl⟩
  rw [zs]
  have SS := Lib.hid zs; clear zs
  have HX := More.refl (w.alloc (.cells #[.bool false, .slice none 0 0, .slice none 0 0] 26))
  have HB := fun (w' : World) (h : More (w.alloc (.cells #[.bool false, .slice none 0 0, .slice none 0 0] 26)) w') => bx3 (w.heap.size) (by simp) h
  go_enter Tryz.func91, Tryz.ntmps91
  go_wp2_with (first | (go_at_call 94; (with_reducible refine (spec_BigIntOfF n _ HN.out).mono ?_); rintro e w1 ⟨u1, rfl, hb1, g1⟩; rw [SS.out]; obtain ⟨x1a, x1n, x1c, rfl⟩ := sh1 (Ty.fresh_at g1); have G1 := Lib.hid g1; clear g1; have HX1 := More.trans HX (show More _ w1 from mC); have HB1 := HB _ HX1; have hz1 := More.size HX1; (try simp at hz1); have hb1 := hb1; have hz9 : w.heap.size < w1.heap.size := (by have := HX1.size; simp at this; omega)))
  refine bodyPost_ret (v := .agg #[.bool s, .slice x1a x1n x1c, .slice (some ⟨w1.heap.size, 0, none⟩) 1 1]) ?_ rfl ?_
  · simp [results, Tryz.results91, go_sem, *]
  · refine ⟨_, _, rfl, mC2, ?_⟩
    rw [limbs_1]
    refine Ty.fresh_mono (rat_fA (bs := []) (Ty.fresh_turns (bs := [w.heap.size]) (w' := (((w1.setCell ⟨w.heap.size, 0, none⟩ (.bool s)).setCell ⟨w.heap.size, 1, none⟩ (.slice x1a x1n x1c)).setCell ⟨w.heap.size, 2, none⟩ (.slice (some ⟨w1.heap.size, 0, none⟩) 1 1))) G1.out tC (by simp)) (lit_fresh (C := #[.int .i64 1]) (e := 3) (l := [1]) fInt (by simp) rfl rfl (by decide) (by intro x hx; simp at hx; subst hx; exact In64.small (by decide))) ?_ (Turns.refl _ _) (by simp) (by have := More.size HX1; simp at this ⊢; omega)) (by simp)
    exact tC
noncomputable def ptI (x y : Int) : QP := (encR (frInt x), encR (frInt y))
set_option maxRecDepth 8000 in
set_option maxHeartbeats 6400000 in
theorem spec_PointOfF (x y : Int) (w : World) (ix : -1000 ≤ x ∧ x ≤ 1000) (iy : -1000 ≤ y ∧ y ≤ 1000) :
    Calls Tryz.prog 54 #[.agg #[.int .i64 x, .int .i64 y]] w fun e w' => ∃ cs : List Value, e = .returned (.agg cs.toArray) ∧ More w w' ∧ tPoint.fresh w.heap.size w' cs (ptI x y) := by
  have Ix := Lib.hid ix; have Iy := Lib.hid iy; clear ix iy
  have HX := More.refl ((w.alloc (.cells #[.int .i64 x, .int .i64 y] 37)).alloc (.cells #[.bool false, .slice none 0 0, .slice none 0 0, .bool false, .slice none 0 0, .slice none 0 0] 28))
  have HC := fun (w' : World) (h : Turns [w.heap.size + 1] ((w.alloc (.cells #[.int .i64 x, .int .i64 y] 37)).alloc (.cells #[.bool false, .slice none 0 0, .slice none 0 0, .bool false, .slice none 0 0, .slice none 0 0] 28)) w') => bt2 (w.heap.size) (by simp) (More.un (More.refl _)) h (by simp <;> omega) (by simp <;> omega)
  have HB := fun (w' : World) (h : More ((w.alloc (.cells #[.int .i64 x, .int .i64 y] 37)).alloc (.cells #[.bool false, .slice none 0 0, .slice none 0 0, .bool false, .slice none 0 0, .slice none 0 0] 28)) w') => And.intro (bx2 (w.heap.size) (by simp) (More.un h)) (bx6 (w.heap.size + 1) (by simp) h)
  go_enter Tryz.func54, Tryz.ntmps54
  go_wp2_with fail
  go_region_held3 (fun w' => Turns [w.heap.size + 1] ((w.alloc (.cells #[.int .i64 x, .int .i64 y] 37)).alloc (.cells #[.bool false, .slice none 0 0, .slice none 0 0, .bool false, .slice none 0 0, .slice none 0 0] 28)) w') (first | exact tC | exact mC2) (first | (go_at_call 91; (with_reducible refine (spec_RatFromIntF x _ Ix.out).mono ?_); rintro e w1 ⟨x1, y1, rfl, hb1, f1⟩; obtain ⟨r1a, r1n, r1c, r1d, r1m, r1e, rfl, rfl⟩ := f1.at.sh; have F1 : Hid (RatFr ((w.alloc (.cells #[.int .i64 x, .int .i64 y] 37)).alloc (.cells #[.bool false, .slice none 0 0, .slice none 0 0, .bool false, .slice none 0 0, .slice none 0 0] 28)).heap.size w1 (frInt x) _ _) := Lib.hid (RatFr.mono f1 (More.size mC)); have A1_ : Hid (RatAt w1 (frInt x) _ _) := Lib.hid f1.at; have FL1 := Lib.hid f1; clear f1; have HX1 := More.trans HX (show More _ w1 from mC); have HB1 := HB _ HX1; have hz1 := More.size HX1; (try simp at hz1); have hb1 := hb1) | (go_at_call 91; (with_reducible refine (spec_RatFromIntF y _ Iy.out).mono ?_); rintro e w2 ⟨x2, y2, rfl, hb2, f2⟩; obtain ⟨r2a, r2n, r2c, r2d, r2m, r2e, rfl, rfl⟩ := f2.at.sh; have F2 : Hid (RatFr ((w.alloc (.cells #[.int .i64 x, .int .i64 y] 37)).alloc (.cells #[.bool false, .slice none 0 0, .slice none 0 0, .bool false, .slice none 0 0, .slice none 0 0] 28)).heap.size w2 (frInt y) _ _) := Lib.hid (RatFr.mono f2 (More.size mC)); have A2_ : Hid (RatAt w2 (frInt y) _ _) := Lib.hid f2.at; have FL2 := Lib.hid f2; clear f2; have HX2 := More.trans HX (show More _ w2 from mC); have HB2 := HB _ HX2; have hz2 := More.size HX2; (try simp at hz2); have hb2 := hb2))
  all_goals
    go_wp2_with fail
    refine bodyPost_ret (v := .agg #[.bool (decide ((frInt x).1 < 0)), .slice r1a r1n r1c, .slice r1d r1m r1e, .bool (decide ((frInt y).1 < 0)), .slice r2a r2n r2c, .slice r2d r2m r2e]) ?_ rfl ?_
    · simp [results, Tryz.results54, go_sem, *]
    · exact ⟨[.bool (decide ((frInt x).1 < 0)), .slice r1a r1n r1c, .slice r1d r1m r1e, .bool (decide ((frInt y).1 < 0)), .slice r2a r2n r2c, .slice r2d r2m r2e], rfl, mC2, by rw [show ptI x y = (encR (frInt x), encR (frInt y)) from rfl]; exact Ty.fresh_mono (pair_fr (bs := [w.heap.size + 1]) (B := ((w.alloc (.cells #[.int .i64 x, .int .i64 y] 37)).alloc (.cells #[.bool false, .slice none 0 0, .slice none 0 0, .bool false, .slice none 0 0, .slice none 0 0] 28)).heap.size) (c1 := [.bool (decide ((frInt x).1 < 0)), .slice r1a r1n r1c, .slice r1d r1m r1e]) (Ty.fresh_mono FL1.out (by skip; have y1 := hz1; (try simp at y1); have s1 := hb1.size; (try simp at s1); have y2 := hz2; (try simp at y2); have s2 := hb2.size; (try simp at s2); (try simp) <;> omega)) (Ty.fresh_mono (S := tRat) (B' := w1.heap.size) FL2.out (by skip; have y1 := hz1; (try simp at y1); have s1 := hb1.size; (try simp at s1); have y2 := hz2; (try simp at y2); have s2 := hb2.size; (try simp at s2); (try simp) <;> omega)) tC tC (by (try simp) <;> omega) (by skip; have y1 := hz1; (try simp at y1); have s1 := hb1.size; (try simp at s1); have y2 := hz2; (try simp at y2); have s2 := hb2.size; (try simp at s2); (try simp) <;> omega)) (by (try simp) <;> omega)⟩
/-- A box of six cells, filled and free. -/
def D6 (w : World) (N : Nat) (a b c d e f : Value) : Prop := (w.cell? ⟨N, 0, none⟩ = some a ∧ w.cell? ⟨N, 1, none⟩ = some b ∧ w.cell? ⟨N, 2, none⟩ = some c ∧ w.cell? ⟨N, 3, none⟩ = some d ∧ w.cell? ⟨N, 4, none⟩ = some e ∧ w.cell? ⟨N, 5, none⟩ = some f) ∧ (∀ j, w.frozen? ⟨N, j, none⟩ = false) ∧ N < w.heap.size
theorem D6.new {X w' : World} {a b c d e f : Value} {t : TypeId} {N : Nat} (hN : X.heap.size = N) (h : More (X.alloc (.cells #[a, b, c, d, e, f] t)) w') : D6 w' N a b c d e f := ⟨⟨box_new hN h 0, box_new hN h 1, box_new hN h 2, box_new hN h 3, box_new hN h 4, box_new hN h 5⟩, box_free hN h, alloc_lt hN h⟩
theorem D6.keep {w w' : World} {N : Nat} {a b c d e f : Value} (h : D6 w N a b c d e f) (hm : More w w') : D6 w' N a b c d e f := by
  obtain ⟨⟨h0, h1, h2, h3, h4, h5⟩, hf, h6⟩ := h
  exact ⟨⟨box_keep hm h6 h0, box_keep hm h6 h1, box_keep hm h6 h2, box_keep hm h6 h3, box_keep hm h6 h4, box_keep hm h6 h5⟩, fun j => free_keep hm h6 (hf j), Nat.lt_of_lt_of_le h6 hm.size⟩
theorem D6.turn {w w' : World} {bs : List Nat} {N : Nat} {a b c d e f : Value} (h : D6 w N a b c d e f) (ht : Turns bs w w') (hb : N ∉ bs) : D6 w' N a b c d e f := by
  obtain ⟨⟨h0, h1, h2, h3, h4, h5⟩, hf, h6⟩ := h
  have k := ht.block _ h6 hb
  exact ⟨⟨cell_heap h0 k, cell_heap h1 k, cell_heap h2 k, cell_heap h3 k, cell_heap h4 k, cell_heap h5 k⟩, bxf k hf, Nat.lt_of_lt_of_le h6 ht.size⟩
theorem spt_int {a c : Int} (ha : -10 ≤ a ∧ a ≤ 10) (hc : -10 ≤ c ∧ c ≤ 10) : Spt a 1 c ∧ ptI a c = ptF a 1 c := by
  have h1 : Bd 2 a := by unfold Bd; omega
  have h2 : Bd 2 c := by unfold Bd; omega
  refine ⟨⟨h1, bdN1, h2, by decide⟩, ?_⟩
  unfold ptI ptF
  rw [int_mk h1 (by decide), int_mk h2 (by decide)]
theorem spt_frac {a c : Int} {z : Nat} (ha : -10 ≤ a ∧ a ≤ 10) (hc : -10 ≤ c ∧ c ≤ 10) (hz : z < 3) : Spt (a * ((2 + z : Nat) : Int) + 1) (2 + z) c ∧ frAdd (frInt a) (frQ 1 (2 + (z : Int))) = frMk (a * ((2 + z : Nat) : Int) + 1) (2 + z) := by
  have h1 : Bd 2 a := by unfold Bd; omega
  have h2 : Bd 2 c := by unfold Bd; omega
  have hd : Bd 2 ((2 + z : Nat) : Int) := by unfold Bd; omega
  have h3 : Bd 2 (a * ((2 + z : Nat) : Int) + 1) := by
    unfold Bd
    have : z = 0 ∨ z = 1 ∨ z = 2 := by omega
    rcases this with rfl | rfl | rfl <;> omega
  refine ⟨⟨h3, hd, h2, by omega⟩, ?_⟩
  rw [frQs_mk (show (0 : Int) < 2 + (z : Int) by omega), show (2 + (z : Int)).natAbs = 2 + z by omega, int_mk h1 (by decide), frB_add (k := 2) (by decide) h1 bdN1 (bd1.mono (by decide)) hd (by decide) (by omega)]
  congr 1
  simp
theorem pt_cut {w : World} {a b c d e f : Value} {p : QP} (h : tPoint.at w [a, b, c, d, e, f] p) : tRat.at w [a, b, c] p.1 ∧ tRat.at w [d, e, f] p.2 := by
  obtain ⟨k0, d0, e0, f0, g0⟩ := at_prod h
  obtain ⟨a1, n1, c1, a2, n2, c2, rfl⟩ := sh_Rat f0
  simp only [List.cons_append, List.nil_append, List.cons.injEq] at e0
  obtain ⟨rfl, rfl, rfl, rfl⟩ := e0
  exact ⟨f0, g0⟩
set_option maxRecDepth 8000 in
set_option maxHeartbeats 6400000 in
theorem spec_l05Point (W : World) (ao : Option Addr) (cap g : Nat) (l : List Int) (w : World) (hv : tCode.at W [.slice ao l.length cap] l) (hl : l.length ≤ 1048576) (hc : Cur W l.length (.slice ao l.length cap) g w) :
    Calls Tryz.prog 28 #[.pointer (some ⟨g, 0, none⟩)] w fun e w' => ∃ (a : Int) (b : Nat) (c : Int) (cs : List Value), Spt a b c ∧ e = .returned (.agg cs.toArray) ∧ More W w' ∧ tPoint.at w' cs (ptF a b c) := by
  have HV := Lib.hid hv; have HL := Lib.hid hl; have HC := Lib.hid hc; clear hv hl hc
  have hg : g < w.heap.size := HC.out.lt.2
  have hgn : w.heap.size ≠ g := by omega
  have hgW : W.heap.size ≤ w.heap.size := by have := HC.out.lt; omega
  go_enter Tryz.func28, Tryz.ntmps28
  go_wp2_with (first | (go_at_call 30; refine (spec_l05Vec W ao cap g l _ HV.out HL.out (HC.out.more mC)).mono ?_; rintro e w1 ⟨x, y, hxy, rfl, C1, T1⟩; have HC1 := Lib.hid C1; have R1 := Lib.hid (D6.turn (D6.new (N := w.heap.size) rfl (More.refl _)) T1 (by simp; omega)); have hs1 : w.heap.size < w1.heap.size := R1.out.2.2; have HT1 := Lib.hid T1; clear C1 T1; obtain ⟨a, ha⟩ : ∃ a, a = (x : Int) - 10 := ⟨_, rfl⟩; obtain ⟨c, hc⟩ : ∃ c, c = (y : Int) - 10 := ⟨_, rfl⟩; rw [← ha, ← hc]; have HA : Hid (-10 ≤ a ∧ a ≤ 10) := Lib.hid (by omega); have HCc : Hid (-10 ≤ c ∧ c ≤ 10) := Lib.hid (by omega); clear ha hc hxy) | (go_at_call 54; refine (spec_PointOfF a c _ (by have := HA.out; omega) (by have := HCc.out; omega)).mono ?_; rintro e w2 ⟨cs2, rfl, hb2, f2⟩; rw [(spt_int HA.out HCc.out).2] at f2; obtain ⟨r3a, r3n, r3c, r3d, r3m, r3e, r4a, r4n, r4c, r4d, r4m, r4e, rfl⟩ := sh_Point (Ty.fresh_at f2); obtain ⟨bs, o2, -, lo2⟩ := f2; have O2 := Lib.hid o2; have HLO := Lib.hid lo2; have HBS : Hid (∀ k ∈ bs, k < w2.heap.size) := Lib.hid (tPoint.own_lt o2); clear o2 lo2; have R2 := Lib.hid (R1.out.keep hb2); have HC2 := Lib.hid (HC1.out.more hb2); have hs2 : w1.heap.size ≤ w2.heap.size := hb2.size; have HB2 := Lib.hid hb2; clear hb2 R1))
  refine (spec_l01Once3 W ao cap g l _ HV.out HL.out (HC2.out.more mC)).mono ?_
  rintro e w3 ⟨b, rfl, C3, T3⟩
  have hg2 : w2.heap.size ≠ g := by omega
  have P3 := Lib.hid (D6.turn (D6.new (N := w2.heap.size) rfl (More.refl _)) T3 (by simp; omega))
  have R3 := Lib.hid (D6.turn (R2.out.keep (Turns.more ((Turns.refl [] w2).alloc (.cells #[.bool (ptF a 1 c).1.1.1, .slice r3a r3n r3c, .slice r3d r3m r3e, .bool (ptF a 1 c).2.1.1, .slice r4a r4n r4c, .slice r4d r4m r4e] 28)))) T3 (by simp; omega))
  have T03 := Lib.hid (((((Turns.refl [g, w.heap.size, w2.heap.size] w2).alloc (.cells #[.bool (ptF a 1 c).1.1.1, .slice r3a r3n r3c, .slice r3d r3m r3e, .bool (ptF a 1 c).2.1.1, .slice r4a r4n r4c, .slice r4d r4m r4e] 28))).trans (T3.mono (fun k hk => by simp at hk ⊢; omega))))
  have HDJ : Hid (∀ k ∈ bs, k ∉ [g, w.heap.size, w2.heap.size]) := Lib.hid (fun k hk hk2 => by have h1 := HLO.out k hk; have h2 := HBS.out k hk; simp at hk2; omega)
  have HC3 := Lib.hid C3
  have hs3 : w2.heap.size < w3.heap.size := P3.out.2.2
  have m3 : More W w3 := C3.1
  clear C3 T3 R2
  obtain ⟨⟨p0, p1, p2, p3, p4, p5⟩, pf, -⟩ := id P3.out
  obtain ⟨⟨q0, q1, q2, q3, q4, q5⟩, qf, -⟩ := id R3.out
  cases b with
  | false =>
    go_wp2_with fail
    refine bodyPost_ret (v := .agg #[.bool (ptF a 1 c).1.1.1, .slice r3a r3n r3c, .slice r3d r3m r3e, .bool (ptF a 1 c).2.1.1, .slice r4a r4n r4c, .slice r4d r4m r4e]) ?_ rfl ?_
    · simp [results, Tryz.results28, go_sem, *]
    · exact ⟨a, 1, c, [.bool (ptF a 1 c).1.1.1, .slice r3a r3n r3c, .slice r3d r3m r3e, .bool (ptF a 1 c).2.1.1, .slice r4a r4n r4c, .slice r4d r4m r4e], (spt_int HA.out HCc.out).1, rfl, mC2, Ty.rd_at (tPoint.own_rd (Ty.own_turns O2.out (T03.out.trans tC) HDJ.out))⟩
  | true =>
    have I1 := Lib.hid (In64.small (n := 1) (by decide))
    have V1 : Hid (Vd (frMk a 1)) := Lib.hid (frMk_vd _ (by decide))
    have W1 : Hid (wRat (ptF a 1 c).1 ≤ 1048576) := Lib.hid (wRat_good V1.out)
    have E1 : Hid (frOf (ptF a 1 c).1 = frInt a) := Lib.hid (by rw [(spt_int HA.out HCc.out).1.of1, int_mk (k := 2) (by have := HA.out; unfold Bd; omega) (by decide)])
    have HTP : Hid (∀ w', Turns [g, w.heap.size, w2.heap.size] w2 w' → tPoint.at w' [.bool (ptF a 1 c).1.1.1, .slice r3a r3n r3c, .slice r3d r3m r3e, .bool (ptF a 1 c).2.1.1, .slice r4a r4n r4c, .slice r4d r4m r4e] (ptF a 1 c)) := Lib.hid (fun w' h => Ty.rd_at (tPoint.own_rd (Ty.own_turns O2.out h HDJ.out)))
    clear m3
    go_wp2_with fail
    go_region_with (first | (go_at_call 58; (with_reducible refine (spec_l01BelowJ W ao cap g l 3 3 _ rfl HV.out HL.out (HC3.out.more mC) (by decide) (by decide)).mono ?_); rintro e w4 ⟨z, hz, rfl, C4, T4⟩; have P4 := Lib.hid (D6.turn (w' := w4) (bs := [g]) (by exact P3.out.keep mC) T4 (by simp; omega)); have R4 := Lib.hid (D6.turn (w' := w4) (bs := [g]) (by exact R3.out.keep mC) T4 (by simp; omega)); have T04 := Lib.hid (T03.out.trans (Turns.trans (b := _) (by exact Turns.mono (More.turns (show More w3 _ from mC) []) (by simp)) (T4.mono (fun k hk => by simp at hk ⊢; omega)))); obtain ⟨⟨p40, p41, p42, p43, p44, p45⟩, p4f, p4l⟩ := id P4.out; obtain ⟨⟨q40, q41, q42, q43, q44, q45⟩, q4f, -⟩ := id R4.out; have HC4 := Lib.hid C4; have hw4 : IntKind.i64.wrap (2 + (z : Int)) = 2 + (z : Int) := IntWalk.i64_in _ (by omega); have I4 := Lib.hid (In64.small (n := 2 + (z : Int)) (by omega)); clear C4 T4) | (go_at_call 57; (with_reducible refine (spec_RatOf 1 (2 + (z : Int)) _ I1.out I4.out).mono ?_); rintro e w5 ⟨u5, v5, rfl, hb5, f5⟩; obtain ⟨r5a, r5n, r5c, r5d, r5m, r5e, rfl, rfl⟩ := f5.at.sh; have A5 := Lib.hid f5.at; have P5 := Lib.hid (P4.out.keep (show More w4 w5 from mC)); have R5 := Lib.hid (R4.out.keep (show More w4 w5 from mC)); obtain ⟨⟨p50, p51, p52, p53, p54, p55⟩, p5f, p5l⟩ := id P5.out; obtain ⟨⟨q50, q51, q52, q53, q54, q55⟩, q5f, -⟩ := id R5.out; clear f5) | (go_at_call 56; (with_reducible refine (spec_RatAddR (frInt a) (frQ 1 (2 + (z : Int))) (ptF a 1 c).1 _ (.slice r3a r3n r3c) (.slice r3d r3m r3e) (encR (frQ 1 (2 + (z : Int)))) _ (.slice r5a r5n r5c) (.slice r5d r5m r5e) _ E1.out (frOf_enc (frQ_vd _ _)) (pt_cut (HTP.out _ (T04.out.trans tC))).1 W1.out (raw_of (RatAt.more A5.out mC)) (wRat_good (frQ_vd _ _))).mono ?_); rintro e w6 ⟨u6, v6, rfl, hb6, f6⟩; obtain ⟨r6a, r6n, r6c, r6d, r6m, r6e, rfl, rfl⟩ := f6.at.sh; have F6 := Lib.hid f6; have P6 := Lib.hid (P5.out.keep (show More w5 w6 from mC)); have R6 := Lib.hid (R5.out.keep (show More w5 w6 from mC)); obtain ⟨⟨p60, p61, p62, p63, p64, p65⟩, p6f, p6l⟩ := id P6.out; obtain ⟨⟨q60, q61, q62, q63, q64, q65⟩, q6f, -⟩ := id R6.out; clear f6))
    all_goals
      go_wp2_with fail
      refine bodyPost_ret (v := .agg #[.bool (decide ((frAdd (frInt a) (frQ 1 (2 + (z : Int)))).1 < 0)), .slice r6a r6n r6c, .slice r6d r6m r6e, .bool (ptF a 1 c).2.1.1, .slice r4a r4n r4c, .slice r4d r4m r4e]) ?_ rfl ?_
      · simp [results, Tryz.results28, go_sem, *]
      · have m4 : More W w4 := HC4.out.1
        have l5 := P5.out.2.2
        have l6 := R5.out.2.2
        refine ⟨_, _, c, [.bool (decide ((frAdd (frInt a) (frQ 1 (2 + (z : Int)))).1 < 0)), .slice r6a r6n r6c, .slice r6d r6m r6e, .bool (ptF a 1 c).2.1.1, .slice r4a r4n r4c, .slice r4d r4m r4e], (spt_frac HA.out HCc.out hz).1, rfl, mC2, ?_⟩
        refine pt_at2 (c1 := [.bool (decide ((frAdd (frInt a) (frQ 1 (2 + (z : Int)))).1 < 0)), .slice r6a r6n r6c, .slice r6d r6m r6e]) (x := encR (frMk (a * ((2 + z : Nat) : Int) + 1) (2 + z))) ?_ ?_
        · rw [← (spt_frac HA.out HCc.out hz).2]
          exact Ty.fresh_at (Ty.fresh_turns (bs := [w.heap.size, w2.heap.size]) F6.out tC (by simp; omega))
        · exact (pt_cut (HTP.out _ (T04.out.trans tC))).2
theorem pt_box6 {w : World} {x y : Bool} {u v u' v' : Value} {a : Int} {d : Nat} {c : Int} {B : Nat} {b b' : Bool} {p1 p2 p3 p4 : Option Addr} {n1 m1 n2 m2 n3 m3 n4 m4 : Nat} {u0 u1 u2 u3 u4 u5 : Value} (k : tPoint.at w [.bool x, u, v, .bool y, u', v'] (ptF a d c)) (h : Box6 w B (.bool b) (.slice p1 n1 m1) (.slice p2 n2 m2) (.bool b') (.slice p3 n3 m3) (.slice p4 n4 m4)) : tPoint.at ((((((w.setCell ⟨B, 0, none⟩ u0).setCell ⟨B, 1, none⟩ u1).setCell ⟨B, 2, none⟩ u2).setCell ⟨B, 3, none⟩ u3).setCell ⟨B, 4, none⟩ u4).setCell ⟨B, 5, none⟩ u5) [.bool x, u, v, .bool y, u', v'] (ptF a d c) := by
  obtain ⟨k1, k2⟩ := pt_cut k
  obtain ⟨s1, r1⟩ := RatAt.of (f := frMk a d) k1
  obtain ⟨s2, r2⟩ := RatAt.of (f := frMk c 1) k2
  subst s1; subst s2
  exact pt_at2 (RatAt.out (RatAt.box6 r1 h)) (RatAt.out (RatAt.box6 r2 h))
set_option maxRecDepth 4000 in
set_option maxHeartbeats 1600000 in
theorem spec_MakePoint (ao : Option Addr) (cap : Nat) (l : List Int) (m : Nat) (z : Int) (w : World) (hz : z = (m : Int)) (hv : tCode.at w [.slice ao l.length cap] l) (hl : l.length ≤ 1048576) (hm : m ≤ 100) :
    Calls Tryz.prog 10 #[.slice ao l.length cap, .int .i64 z] w fun e w' => ∃ (a : Int) (b : Nat) (c : Int) (cs : List Value), Spt a b c ∧ e = .returned (.agg cs.toArray) ∧ More w w' ∧ tPoint.at w' cs (ptF a b c) := by
  subst hz
  have HV := Lib.hid hv; have HL := Lib.hid hl; clear hv hl
  obtain ⟨m5, hm5, hw5⟩ : ∃ m5 : Nat, m5 ≤ 400 ∧ (4 : Int) * (m : Int) = (m5 : Int) := ⟨4 * m, by omega, by omega⟩
  go_enter Tryz.func10, Tryz.ntmps10
  go_wp2_with (first | (go_at_call 29; refine (spec_l31New ao cap l m5 _ (Ty.at_more HV.out mC) HL.out (by omega)).mono ?_; rintro e w1 ⟨g, rfl, C1, hb1⟩; have HC1 := Lib.hid C1; clear C1) | (go_at_call 28; refine (spec_l05Point _ ao cap g l _ (Ty.at_more HV.out mC) HL.out HC1.out).mono ?_; rintro e w2 ⟨a, b, c, cs2, hs, rfl, hb2, f2⟩; obtain ⟨r3a, r3n, r3c, r3d, r3m, r3e, r4a, r4n, r4c, r4d, r4m, r4e, rfl⟩ := sh_Point f2; have F2 := Lib.hid f2; have HS := Lib.hid hs; clear f2 hs; have HD := Lib.hid (show D6 w2 w.heap.size (.bool false) (.slice none 0 0) (.slice none 0 0) (.bool false) (.slice none 0 0) (.slice none 0 0) from D6.new rfl hb2); obtain ⟨⟨d0, d1, d2, d3, d4, d5⟩, df, -⟩ := id HD.out))
  refine bodyPost_ret (v := .agg #[.bool (ptF a b c).1.1.1, .slice r3a r3n r3c, .slice r3d r3m r3e, .bool (ptF a b c).2.1.1, .slice r4a r4n r4c, .slice r4d r4m r4e]) ?_ rfl ?_
  · simp [results, Tryz.results10, go_sem, *]
  · refine ⟨a, b, c, [.bool (ptF a b c).1.1.1, .slice r3a r3n r3c, .slice r3d r3m r3e, .bool (ptF a b c).2.1.1, .slice r4a r4n r4c, .slice r4d r4m r4e], HS.out, rfl, mC2, ?_⟩
    exact pt_box6 F2.out ⟨d0, d1, d2, d3, d4, d5, df, HD.out.2.2⟩
set_option maxRecDepth 4000 in
set_option maxHeartbeats 1600000 in
theorem spec_MakeVec (ao : Option Addr) (cap : Nat) (l : List Int) (m : Nat) (z : Int) (w : World) (hz : z = (m : Int)) (hv : tCode.at w [.slice ao l.length cap] l) (hl : l.length ≤ 1048576) (hm : m ≤ 100) :
    Calls Tryz.prog 11 #[.slice ao l.length cap, .int .i64 z] w fun e w' => ∃ x y : Int, ((-10 ≤ x ∧ x ≤ 10) ∧ (-10 ≤ y ∧ y ≤ 10)) ∧ e = .returned (.agg #[.int .i64 x, .int .i64 y]) ∧ More w w' := by
  subst hz
  have HV := Lib.hid hv; have HL := Lib.hid hl; clear hv hl
  obtain ⟨m5, hm5, hw5⟩ : ∃ m5 : Nat, m5 ≤ 400 ∧ (3 : Int) * (m : Int) = (m5 : Int) := ⟨3 * m, by omega, by omega⟩
  go_enter Tryz.func11, Tryz.ntmps11
  go_wp2_with (first | (go_at_call 29; refine (spec_l31New ao cap l m5 _ (Ty.at_more HV.out mC) HL.out (by omega)).mono ?_; rintro e w1 ⟨g, rfl, C1, hb1⟩; have HC1 := Lib.hid C1; clear C1) | (go_at_call 30; refine (spec_l05Vec _ ao cap g l _ (Ty.at_more HV.out mC) HL.out HC1.out).mono ?_; rintro e w2 ⟨x, y, hxy, rfl, C2, T2⟩; have hb2 := C2.1; clear C2 T2; have d0 := box_new (N := w.heap.size) rfl hb2 0; have d1 := box_new (N := w.heap.size) rfl hb2 1; have df := box_free (N := w.heap.size) rfl hb2))
  refine bodyPost_ret (v := .agg #[.int .i64 ((x : Int) - 10), .int .i64 ((y : Int) - 10)]) ?_ rfl ?_
  · simp [results, Tryz.results11, go_sem, *]
  · exact ⟨_, _, ⟨by omega, by omega⟩, rfl, mC2⟩
end Go.Proofs.YtnbefpfijaimjaaGreatDoor
