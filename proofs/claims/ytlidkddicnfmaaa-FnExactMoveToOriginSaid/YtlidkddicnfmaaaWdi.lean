/- WidthOf: the program's. -/
import Derived.Test.YtlidkddicnfmaaaWid
import Derived.Deep.DeepCutAuto
import Derived.Lib.MinMax
namespace Go.Proofs.Ytlidkddicnfmaaa
open Go.RowKit
structure VBox (w : World) (B : Nat) (x y : Value) : Prop where
  c0 : w.cell? ⟨B, 0, none⟩ = some x
  c1 : w.cell? ⟨B, 1, none⟩ = some y
  fr : ∀ j, w.frozen? ⟨B, j, none⟩ = false
  lt : B < w.heap.size
theorem VBox.keep {w w' : World} {B : Nat} {x y : Value} (h : VBox w B x y) (hm : More w w') : VBox w' B x y :=
  ⟨box_keep hm h.lt h.c0, box_keep hm h.lt h.c1, fun j => free_keep hm h.lt (h.fr j), Nat.lt_of_lt_of_le h.lt hm.size⟩
theorem VBox.set {w : World} {B : Nat} {x y u v : Value} (h : VBox w B x y) : VBox ((w.setCell ⟨B, 0, none⟩ u).setCell ⟨B, 1, none⟩ v) B u v := by
  have e1 : (w.setCell ⟨B, 0, none⟩ u).cell? ⟨B, 1, none⟩ = some y := (World.cell?_setCell_other _ _ _ _ (by simp)).trans h.c1
  refine ⟨(World.cell?_setCell_other _ _ _ _ (by simp)).trans (World.cell?_setCell_same _ _ _ h.c0), World.cell?_setCell_same _ _ _ e1, fun j => by rw [World.frozen?_setCell, World.frozen?_setCell]; exact h.fr j, by simpa using h.lt⟩
theorem VBox.other {w : World} {B C : Nat} {x y u v : Value} (h : VBox w B x y) (hn : B ≠ C) : VBox ((w.setCell ⟨C, 0, none⟩ u).setCell ⟨C, 1, none⟩ v) B x y :=
  ⟨(World.cell?_setCell_other _ _ _ _ (by simp <;> omega)).trans ((World.cell?_setCell_other _ _ _ _ (by simp <;> omega)).trans h.c0), (World.cell?_setCell_other _ _ _ _ (by simp <;> omega)).trans ((World.cell?_setCell_other _ _ _ _ (by simp <;> omega)).trans h.c1), fun j => by rw [World.frozen?_setCell, World.frozen?_setCell]; exact h.fr j, by simpa using h.lt⟩
theorem VBox.set0 {w : World} {B : Nat} {x y u : Value} (h : VBox w B x y) : VBox (w.setCell ⟨B, 0, none⟩ u) B u y :=
  ⟨World.cell?_setCell_same _ _ _ h.c0, (World.cell?_setCell_other _ _ _ _ (by simp)).trans h.c1, fun j => by rw [World.frozen?_setCell]; exact h.fr j, by simpa using h.lt⟩
theorem VBox.al {w : World} {o : Obj} {B : Nat} {x y : Value} (h : VBox w B x y) : VBox (w.alloc o) B x y := h.keep (Turns.more ((Turns.refl [] _).alloc _))
theorem VBox.nw {w : World} {x y : Value} {t : TypeId} {N : Nat} (hN : w.heap.size = N) : VBox (w.alloc (.cells #[x, y] t)) N x y := ⟨box_new hN (More.refl _) 0, box_new hN (More.refl _) 1, fun j => box_free hN (More.refl _) j, by simp; omega⟩
theorem VBox.new {X w : World} {x y : Value} {t : TypeId} {N : Nat} (hN : X.heap.size = N) (h : More (X.alloc (.cells #[x, y] t)) w) : VBox w N x y :=
  ⟨box_new hN h 0, box_new hN h 1, fun j => box_free hN h j, by have := h.size; simp at this; omega⟩
theorem VBox.more {w0 w : World} {B : Nat} {u v : Value} (h : More w0 w) (hB : w0.heap.size ≤ B) : More w0 ((w.setCell ⟨B, 0, none⟩ u).setCell ⟨B, 1, none⟩ v) := Turns.more (((h.turns []).setCell (.inr hB) _).setCell (.inr hB) _)
theorem poly_all {l : List QV} (h : isPoly l = true) : l.all isV = true := by
  obtain ⟨⟨h3, -⟩, hr⟩ := isPoly_iff.1 h
  rw [List.all_eq_true]
  intro x hx
  obtain ⟨j, hj, rfl⟩ := List.getElem_of_mem hx
  have h1 := hr 0 (by omega) j hj
  unfold okS at h1
  rw [Bool.and_eq_true] at h1
  have h2 := h1.1
  rwa [List.getD_eq_getElem?_getD, List.getElem?_eq_getElem hj, Option.getD_some] at h2
set_option maxRecDepth 8000 in
set_option maxHeartbeats 6400000 in
theorem impl_widthOf (v : Value) (l : List QV) (w : World) (hv : tVecs.at w [v] l) (hp : isPoly l = true) :
    Calls Try.prog 62 #[v] w fun e w' => e = .returned (.tuple #[.agg #[.int .i64 (loK l l.length).1, .int .i64 (loK l l.length).2], .agg #[.int .i64 (hiK l l.length).1, .int .i64 (hiK l l.length).2]]) ∧ More w w' := by
  obtain ⟨hl3, hl16⟩ := poly_pos hp
  obtain ⟨ao, cap, rfl⟩ := sl_len hv
  obtain ⟨b, off, x0, y0, rfl, hblt, hx0, ox0, oy0, c0, c1⟩ := vec_el hv (k := 0) (by omega)
  have HX0 := Lib.hid hx0; clear hx0 hp
  have OX0 := Lib.hid ox0; have OY0 := Lib.hid oy0; clear ox0 oy0
  have HV := Lib.hid hv; clear hv
  obtain ⟨n, hn⟩ : ∃ n, n = l.length := ⟨_, rfl⟩
  rw [← hn] at HV hl3 hl16 ⊢
  have HN := Lib.hid hn; clear hn
  have hn0 : (0 : Int) < (n : Int) := by omega
  have hn0' : 0 < n := by omega
  simp only [Nat.zero_mul, Nat.add_zero] at c0 c1
  have C0 : ∀ w', More w w' → w'.cell? ⟨b, off, none⟩ = some (.int .i64 x0) ∧ w'.cell? ⟨b, off + 1, none⟩ = some (.int .i64 y0) := fun w' h => ⟨box_keep h hblt c0, box_keep h hblt c1⟩
  clear c0 c1
  have HX : More ((w.alloc (.cells #[.int .i64 0, .int .i64 0] 25)).alloc (.cells #[.int .i64 0, .int .i64 0] 25)) ((w.alloc (.cells #[.int .i64 0, .int .i64 0] 25)).alloc (.cells #[.int .i64 0, .int .i64 0] 25)) := More.refl _
  have HB : ∀ w', More ((w.alloc (.cells #[.int .i64 0, .int .i64 0] 25)).alloc (.cells #[.int .i64 0, .int .i64 0] 25)) w' → w'.cell? ⟨w.heap.size, 0, none⟩ = some (.int .i64 0) ∧ w'.cell? ⟨w.heap.size, 1, none⟩ = some (.int .i64 0) ∧ (∀ j, w'.frozen? ⟨w.heap.size, j, none⟩ = false) ∧ w'.cell? ⟨w.heap.size + 1, 0, none⟩ = some (.int .i64 0) ∧ w'.cell? ⟨w.heap.size + 1, 1, none⟩ = some (.int .i64 0) ∧ (∀ j, w'.frozen? ⟨w.heap.size + 1, j, none⟩ = false) := fun w' h => ⟨box_new (by simp) (More.un h) 0, box_new (by simp) (More.un h) 1, fun j => box_free (by simp) (More.un h) j, box_new (by simp) h 0, box_new (by simp) h 1, fun j => box_free (by simp) h j⟩
  have HC := fun (w' : World) (h : Turns [] ((w.alloc (.cells #[.int .i64 0, .int .i64 0] 25)).alloc (.cells #[.int .i64 0, .int .i64 0] 25)) w') => HB w' (Turns.more h)
  have C1 : ∀ w', Turns [] ((w.alloc (.cells #[.int .i64 0, .int .i64 0] 25)).alloc (.cells #[.int .i64 0, .int .i64 0] 25)) w' → w'.cell? ⟨b, off, none⟩ = some (.int .i64 x0) ∧ w'.cell? ⟨b, off + 1, none⟩ = some (.int .i64 y0) := fun w' h => C0 w' (More.trans (show More w ((w.alloc (.cells #[.int .i64 0, .int .i64 0] 25)).alloc (.cells #[.int .i64 0, .int .i64 0] 25)) from mC) (Turns.more h))
  have HC := HB
  go_enter Try.func62, Try.ntmps62
  go_wp2_with fail
  go_cut [4, 5] (fun sl1 sl2 wx => ∃ (nb1 nb2 : Nat), sl1 = .pointer (some ⟨nb1, 0, none⟩) ∧ sl2 = .pointer (some ⟨nb2, 0, none⟩) ∧ nb1 ≠ nb2 ∧ More ((w.alloc (.cells #[.int .i64 0, .int .i64 0] 25)).alloc (.cells #[.int .i64 0, .int .i64 0] 25)) wx ∧ (((w.alloc (.cells #[.int .i64 0, .int .i64 0] 25)).alloc (.cells #[.int .i64 0, .int .i64 0] 25)).heap.size ≤ nb1 ∧ VBox wx nb1 (.int .i64 x0) (.int .i64 y0)) ∧ (((w.alloc (.cells #[.int .i64 0, .int .i64 0] 25)).alloc (.cells #[.int .i64 0, .int .i64 0] 25)).heap.size ≤ nb2 ∧ VBox wx nb2 (.int .i64 x0) (.int .i64 y0)))
  case first =>
    go_region_held3 (fun w' => Turns [] ((w.alloc (.cells #[.int .i64 0, .int .i64 0] 25)).alloc (.cells #[.int .i64 0, .int .i64 0] 25)) w') (first | exact tC | exact mC2) (first | fail)
    all_goals
      go_wp2_with fail
      go_meet
      refine ⟨_, _, rfl, rfl, ?_, mC2, ⟨?_, ?_, ?_, ?_, ?_⟩, ⟨?_, ?_, ?_, ?_, ?_⟩⟩
      all_goals first | (simp [*]; done) | (simp; omega) | omega | (go_simp; done)
  case rest =>
    rename World => wd
    obtain ⟨nb1, nb2, rfl, rfl, hne, hm1, ⟨hn1, hB1⟩, ⟨hn2, hB2⟩⟩ := hcut
    have HBd := HB _ hm1
    have hs1 := hm1.size
    simp at hn1 hn2 hs1
    have k1 := hB1.lt
    have k2 := hB2.lt
    go_wp2_with fail
    go_loopw [16] (fun i wr => ∃ k : Nat, k ≤ n ∧ i = .int .i64 k ∧ More ((w.alloc (.cells #[.int .i64 0, .int .i64 0] 25)).alloc (.cells #[.int .i64 0, .int .i64 0] 25)) wr ∧ ∃ a b c d : Int, Hid (loK l k = (a, b)) ∧ Hid (hiK l k = (c, d)) ∧ Hid (VBox wr nb1 (.int .i64 a) (.int .i64 b)) ∧ Hid (VBox wr nb2 (.int .i64 c) (.int .i64 d))) (fun i _ => n - (intOf i).toNat)
    case atStart => exact ⟨0, Nat.zero_le _, rfl, hm1, x0, y0, x0, y0, Lib.hid (head_eq HX0.out), Lib.hid (head_eq HX0.out), Lib.hid hB1, Lib.hid hB2⟩
    case round =>
      clear HBd
      obtain ⟨k, hk, rfl, hm, a, b', c', d', HLO, HHI, P1, P2⟩ := hrel
      have HBw := HB _ hm
      have k1 := P1.out.lt
      have k2 := P2.out.lt
      have hmw : More w wr := More.trans (show More w ((w.alloc (.cells #[.int .i64 0, .int .i64 0] 25)).alloc (.cells #[.int .i64 0, .int .i64 0] 25)) from mC) hm
      by_cases hlt : k < n
      · obtain ⟨b2, off2, x, y, hadr, hblt2, hx, ox, oy, c0, c1⟩ := vec_el (Ty.at_more HV.out hmw) (k := k) (by rw [← HN.out]; exact hlt)
        simp only [Option.some.injEq, Addr.mk.injEq] at hadr
        obtain ⟨rfl, rfl, -⟩ := hadr
        have HX := Lib.hid hx; clear hx
        have e12 : nb2 ≠ nb1 := Ne.symm hne
        have e1 : nb1 ≠ wr.heap.size := by omega
        have e2 : nb2 ≠ wr.heap.size := by omega
        have X1 := P1.out.set0 (u := .int .i64 (min a x))
        have X2 := P1.out.set (u := .int .i64 (min a x)) (v := .int .i64 (min b' y))
        have Y2 := P2.out.other (u := .int .i64 (min a x)) (v := .int .i64 (min b' y)) e12
        have Y3 := Y2.set0 (u := .int .i64 (max c' x))
        have X4 := X2.other (u := .int .i64 (max c' x)) (v := .int .i64 (max d' y)) hne
        have Y4 := Y2.set (u := .int .i64 (max c' x)) (v := .int .i64 (max d' y))
        have M4 := VBox.more (u := .int .i64 (max c' x)) (v := .int .i64 (max d' y)) (VBox.more (u := .int .i64 (min a x)) (v := .int .i64 (min b' y)) hm (show ((w.alloc (.cells #[.int .i64 0, .int .i64 0] 25)).alloc (.cells #[.int .i64 0, .int .i64 0] 25)).heap.size ≤ nb1 by simp; omega)) (show ((w.alloc (.cells #[.int .i64 0, .int .i64 0] 25)).alloc (.cells #[.int .i64 0, .int .i64 0] 25)).heap.size ≤ nb2 by simp; omega)
        have M5 := More.trans M4 (Turns.more ((Turns.refl [] _).alloc (.cells #[.int .i64 x, .int .i64 y] 25)))
        have HX2 := Lib.hid (X4.al (o := .cells #[.int .i64 x, .int .i64 y] 25)); have HY2 := Lib.hid (Y4.al (o := .cells #[.int .i64 x, .int .i64 y] 25)); have HM2 := Lib.hid M5; clear X4 Y4 M4 M5
        obtain ⟨x0a, x0b, x0f, -⟩ := P1.out.al (o := .cells #[.int .i64 x, .int .i64 y] 25)
        obtain ⟨y0a, y0b, y0f, -⟩ := P2.out.al (o := .cells #[.int .i64 x, .int .i64 y] 25)
        obtain ⟨x1a, x1b, x1f, -⟩ := X1.al (o := .cells #[.int .i64 x, .int .i64 y] 25)
        obtain ⟨x2a, x2b, x2f, -⟩ := X2.al (o := .cells #[.int .i64 x, .int .i64 y] 25)
        obtain ⟨y2a, y2b, y2f, -⟩ := Y2.al (o := .cells #[.int .i64 x, .int .i64 y] 25)
        obtain ⟨y3a, y3b, y3f, -⟩ := Y3.al (o := .cells #[.int .i64 x, .int .i64 y] 25)
        have Z0 : VBox (wr.alloc (.cells #[.int .i64 x, .int .i64 y] 25)) wr.heap.size (.int .i64 x) (.int .i64 y) := VBox.nw rfl
        have Z2 : VBox (((wr.setCell ⟨nb1, 0, none⟩ (.int .i64 (min a x))).setCell ⟨nb1, 1, none⟩ (.int .i64 (min b' y))).alloc (.cells #[.int .i64 x, .int .i64 y] 25)) wr.heap.size (.int .i64 x) (.int .i64 y) := VBox.nw (by simp)
        obtain ⟨z0a, z0b, z0f, -⟩ := Z0
        obtain ⟨z2a, z2b, z2f, -⟩ := Z2
        clear X1 X2 Y2 Y3
        go_wp2_with fail
        go_roundw
        case rel => exact ⟨k + 1, by omega, by go_num, HM2.out, min a x, min b' y, max c' x, max d' y, Lib.hid (by rw [loK_next HX.out, HLO.out]; rfl), Lib.hid (by rw [hiK_next HX.out, HHI.out]; rfl), HX2, HY2⟩
        case measure => simp [intOf]; omega
      · obtain ⟨x0a, x0b, x0f, -⟩ := P1.out
        obtain ⟨y0a, y0b, y0f, -⟩ := P2.out
        have hs2 := hm.size
        simp at hs2
        have f1 : w.heap.size ≠ nb1 := by omega
        have f2 : w.heap.size ≠ nb2 := by omega
        have f3 : w.heap.size + 1 ≠ nb1 := by omega
        have f4 : w.heap.size + 1 ≠ nb2 := by omega
        go_wp2_with fail
        go_region
        all_goals
          go_wp2_with fail
          obtain rfl : k = n := by omega
          have e1 := HLO.out; have e2 := HHI.out
          rw [e1, e2]
          refine bodyPost_ret (v := .tuple #[.agg #[.int .i64 a, .int .i64 b'], .agg #[.int .i64 c', .int .i64 d']]) ?_ rfl ⟨rfl, ?_⟩
          · simp [results, Try.results62, go_sem, *]
          · exact mC2
set_option maxRecDepth 8000 in
set_option maxHeartbeats 6400000 in
theorem impl_WidthOf (v : Value) (l : List QV) (w : World) (hv : tVecs.at w [v] l) (hl : l.length ≤ 1048576) :
    Calls Try.prog 15 #[v] w fun e w' => e = .returned (.tuple #[.agg #[.int .i64 ((widF l).1).1, .int .i64 ((widF l).1).2], .agg #[.int .i64 ((widF l).2.1).1, .int .i64 ((widF l).2.1).2], .bool (widF l).2.2]) ∧ More w w' := by
  have HL := Lib.hid hl
  have HV0 := Lib.hid hv; clear hv
  rcases Bool.eq_false_or_eq_true (isPoly l) with hp | hp
  rotate_left
  · rw [widF_no hp]
    have HP := Lib.hid hp
    have HX : More ((w.alloc (.cells #[.int .i64 0, .int .i64 0] 25)).alloc (.cells #[.int .i64 0, .int .i64 0] 25)) ((w.alloc (.cells #[.int .i64 0, .int .i64 0] 25)).alloc (.cells #[.int .i64 0, .int .i64 0] 25)) := More.refl _
    have HB : ∀ w', More ((w.alloc (.cells #[.int .i64 0, .int .i64 0] 25)).alloc (.cells #[.int .i64 0, .int .i64 0] 25)) w' → w'.cell? ⟨w.heap.size, 0, none⟩ = some (.int .i64 0) ∧ w'.cell? ⟨w.heap.size, 1, none⟩ = some (.int .i64 0) ∧ (∀ j, w'.frozen? ⟨w.heap.size, j, none⟩ = false) ∧ w'.cell? ⟨w.heap.size + 1, 0, none⟩ = some (.int .i64 0) ∧ w'.cell? ⟨w.heap.size + 1, 1, none⟩ = some (.int .i64 0) ∧ (∀ j, w'.frozen? ⟨w.heap.size + 1, j, none⟩ = false) := fun w' h => ⟨box_new (by simp) (More.un h) 0, box_new (by simp) (More.un h) 1, fun j => box_free (by simp) (More.un h) j, box_new (by simp) h 0, box_new (by simp) h 1, fun j => box_free (by simp) h j⟩
    have HC := fun (w' : World) (h : Turns [] ((w.alloc (.cells #[.int .i64 0, .int .i64 0] 25)).alloc (.cells #[.int .i64 0, .int .i64 0] 25)) w') => HB w' (Turns.more h)
    go_enter Try.func15, Try.ntmps15
    go_wp2_with (go_at_call 27; refine (impl_IsPolygon _ l _ (Ty.at_more HV0.out mC) HL.out).mono ?_; rintro e w1 ⟨rfl, hb1⟩; have HX : More ((w.alloc (.cells #[.int .i64 0, .int .i64 0] 25)).alloc (.cells #[.int .i64 0, .int .i64 0] 25)) _ := More.trans (by assumption) hb1; have HBw := HB _ HX)
    refine bodyPost_ret (v := .tuple #[.agg #[.int .i64 0, .int .i64 0], .agg #[.int .i64 0, .int .i64 0], .bool false]) ?_ rfl ⟨rfl, ?_⟩
    · simp [results, Try.results15, go_sem, *]
    · exact mC2
  · rw [widF_yes hp]
    have HP := Lib.hid hp; clear hp
    obtain ⟨a, b, hab⟩ : ∃ a b, loK l l.length = (a, b) := ⟨_, _, rfl⟩
    obtain ⟨c, d, hcd⟩ : ∃ a b, hiK l l.length = (a, b) := ⟨_, _, rfl⟩
    have HAB := Lib.hid hab; have HCD := Lib.hid hcd
    rw [hab, hcd]; clear hab hcd
    have HX : More ((w.alloc (.cells #[.int .i64 0, .int .i64 0] 25)).alloc (.cells #[.int .i64 0, .int .i64 0] 25)) ((w.alloc (.cells #[.int .i64 0, .int .i64 0] 25)).alloc (.cells #[.int .i64 0, .int .i64 0] 25)) := More.refl _
    have HB : ∀ w', More ((w.alloc (.cells #[.int .i64 0, .int .i64 0] 25)).alloc (.cells #[.int .i64 0, .int .i64 0] 25)) w' → w'.cell? ⟨w.heap.size, 0, none⟩ = some (.int .i64 0) ∧ w'.cell? ⟨w.heap.size, 1, none⟩ = some (.int .i64 0) ∧ (∀ j, w'.frozen? ⟨w.heap.size, j, none⟩ = false) ∧ w'.cell? ⟨w.heap.size + 1, 0, none⟩ = some (.int .i64 0) ∧ w'.cell? ⟨w.heap.size + 1, 1, none⟩ = some (.int .i64 0) ∧ (∀ j, w'.frozen? ⟨w.heap.size + 1, j, none⟩ = false) := fun w' h => ⟨box_new (by simp) (More.un h) 0, box_new (by simp) (More.un h) 1, fun j => box_free (by simp) (More.un h) j, box_new (by simp) h 0, box_new (by simp) h 1, fun j => box_free (by simp) h j⟩
    have HC := fun (w' : World) (h : Turns [] ((w.alloc (.cells #[.int .i64 0, .int .i64 0] 25)).alloc (.cells #[.int .i64 0, .int .i64 0] 25)) w') => HB w' (Turns.more h)
    go_enter Try.func15, Try.ntmps15
    go_wp2_with (first | (go_at_call 27; refine (impl_IsPolygon _ l _ (Ty.at_more HV0.out mC) HL.out).mono ?_; rintro e w1 ⟨rfl, hb1⟩; rw [HP.out]; have HX1 : More ((w.alloc (.cells #[.int .i64 0, .int .i64 0] 25)).alloc (.cells #[.int .i64 0, .int .i64 0] 25)) w1 := mC; have HB1 := HB _ HX1; have hz1 := More.size HX1; (try simp at hz1); have hb1 := hb1) | (go_at_call 62; refine (impl_widthOf _ l _ (Ty.at_more HV0.out mC) HP.out).mono ?_; rintro e w2 ⟨rfl, hb2⟩; rw [HAB.out, HCD.out]; have HX2 : More ((w.alloc (.cells #[.int .i64 0, .int .i64 0] 25)).alloc (.cells #[.int .i64 0, .int .i64 0] 25)) w2 := mC; have HB2 := HB _ HX2; have hz2 := More.size HX2; (try simp at hz2); have hb2 := hb2; have HB2 := (VBox.new (X := w2) (x := .int .i64 a) (y := .int .i64 b) (t := 25) rfl (More.un (More.refl _)) : VBox ((w2.alloc (.cells #[.int .i64 a, .int .i64 b] 25)).alloc (.cells #[.int .i64 c, .int .i64 d] 25)) _ _ _); have HB3 := (VBox.new (X := (w2.alloc (.cells #[.int .i64 a, .int .i64 b] 25))) (N := w2.heap.size + 1) (x := .int .i64 c) (y := .int .i64 d) (t := 25) (by simp) (More.refl _)); have HB4 := HB _ (show More ((w.alloc (.cells #[.int .i64 0, .int .i64 0] 25)).alloc (.cells #[.int .i64 0, .int .i64 0] 25)) ((w2.alloc (.cells #[.int .i64 a, .int .i64 b] 25)).alloc (.cells #[.int .i64 c, .int .i64 d] 25)) from mC); obtain ⟨g1, g2, g3, -⟩ := HB2; obtain ⟨g4, g5, g6, -⟩ := HB3))
    go_region
    all_goals
      go_wp2_with fail
      refine bodyPost_ret (v := .tuple #[.agg #[.int .i64 a, .int .i64 b], .agg #[.int .i64 c, .int .i64 d], .bool true]) ?_ rfl ⟨rfl, ?_⟩
      · simp [results, Try.results15, go_sem, *]
      · exact mC2
end Go.Proofs.Ytlidkddicnfmaaa
