/- WidthOf: the reference's and the program's. -/
import Derived.Test.YtlidkddicnfmaaaWidP
import Derived.Deep.RegionHeld3
namespace Go.Proofs.Ytlidkddicnfmaaa
open Go.RowKit
theorem spec_l07Min (a b : Int) (w : World) : Calls Try.prog 59 #[.int .i64 a, .int .i64 b] w fun e w' => e = .returned (.int .i64 (min a b)) ∧ More w w' := by
  by_cases h : a < b
  all_goals
    go_enter Try.func59, Try.ntmps59
    go_wp2_with fail
    go_ret
    exact ⟨ret_int (by omega), mC⟩
theorem spec_l07Max (a b : Int) (w : World) : Calls Try.prog 60 #[.int .i64 a, .int .i64 b] w fun e w' => e = .returned (.int .i64 (max a b)) ∧ More w w' := by
  by_cases h : b < a
  all_goals
    go_enter Try.func60, Try.ntmps60
    go_wp2_with fail
    go_ret
    exact ⟨ret_int (by omega), mC⟩
theorem poly_pos {l : List QV} (h : isPoly l = true) : 3 ≤ l.length ∧ l.length ≤ 16 := (isPoly_iff.1 h).1
theorem widF_no {l : List QV} (h : isPoly l = false) : widF l = ((0, 0), (0, 0), false) := by unfold widF; rw [h]; rfl
theorem widF_yes {l : List QV} (h : isPoly l = true) : widF l = (loK l l.length, hiK l l.length, true) := by unfold widF; rw [h]; rfl
theorem head_eq {l : List QV} {x : QV} (h : l[0]? = some x) : l.headD (0, 0) = x := by
  cases l with
  | nil => simp at h
  | cons y l => simpa using h
set_option maxHeartbeats 6400000 in
theorem spec_WidthOf (v : Value) (l : List QV) (w : World) (hv : tVecs.at w [v] l) (hl : l.length ≤ 1048576) :
    Calls Try.prog 13 #[v] w fun e w' => e = .returned (.tuple #[.agg #[.int .i64 ((widF l).1).1, .int .i64 ((widF l).1).2], .agg #[.int .i64 ((widF l).2.1).1, .int .i64 ((widF l).2.1).2], .bool (widF l).2.2]) ∧ More w w' := by
  have HL := Lib.hid hl
  have HV0 := Lib.hid hv
  rcases Bool.eq_false_or_eq_true (isPoly l) with hp | hp
  rotate_left
  · rw [widF_no hp]
    have HP := Lib.hid hp
    have HX : More ((w.alloc (.cells #[.int .i64 0, .int .i64 0] 25)).alloc (.cells #[.int .i64 0, .int .i64 0] 25)) ((w.alloc (.cells #[.int .i64 0, .int .i64 0] 25)).alloc (.cells #[.int .i64 0, .int .i64 0] 25)) := More.refl _
    have HB : ∀ w', More ((w.alloc (.cells #[.int .i64 0, .int .i64 0] 25)).alloc (.cells #[.int .i64 0, .int .i64 0] 25)) w' → w'.cell? ⟨w.heap.size, 0, none⟩ = some (.int .i64 0) ∧ w'.cell? ⟨w.heap.size, 1, none⟩ = some (.int .i64 0) ∧ (∀ j, w'.frozen? ⟨w.heap.size, j, none⟩ = false) ∧ w'.cell? ⟨w.heap.size + 1, 0, none⟩ = some (.int .i64 0) ∧ w'.cell? ⟨w.heap.size + 1, 1, none⟩ = some (.int .i64 0) ∧ (∀ j, w'.frozen? ⟨w.heap.size + 1, j, none⟩ = false) := fun w' h => ⟨box_new (by simp) (More.un h) 0, box_new (by simp) (More.un h) 1, fun j => box_free (by simp) (More.un h) j, box_new (by simp) h 0, box_new (by simp) h 1, fun j => box_free (by simp) h j⟩
    go_enter Try.func13, Try.ntmps13
    go_wp2_with (go_at_call 58; refine (spec_IsPolygon _ l _ (Ty.at_more HV0.out mC) HL.out).mono ?_; rintro e w1 ⟨rfl, hb1⟩; have HX : More ((w.alloc (.cells #[.int .i64 0, .int .i64 0] 25)).alloc (.cells #[.int .i64 0, .int .i64 0] 25)) _ := More.trans (by assumption) hb1; have HBw := HB _ HX)
    refine bodyPost_ret (v := .tuple #[.agg #[.int .i64 0, .int .i64 0], .agg #[.int .i64 0, .int .i64 0], .bool false]) ?_ rfl ⟨rfl, ?_⟩
    · simp [results, Try.results13, go_sem, *]
    · exact mC2
  · obtain ⟨hl3, hl16⟩ := poly_pos hp
    rw [widF_yes hp]
    obtain ⟨ao, cap, rfl⟩ := sl_len hv
    obtain ⟨b, off, x0, y0, rfl, hblt, hx0, -, -, c0, c1⟩ := vec_el hv (k := 0) (by omega)
    have HX0 := Lib.hid hx0; have HP := Lib.hid hp; clear hx0 hp
    have HV := Lib.hid hv; clear hv
    obtain ⟨n, hn⟩ : ∃ n, n = l.length := ⟨_, rfl⟩
    rw [← hn] at HV HV0 hl hl3 hl16 ⊢
    have HN := Lib.hid hn; clear hn
    have hn0 : (0 : Int) < (n : Int) := by omega
    have hn0' : 0 < n := by omega
    have C0 : ∀ w', More w w' → w'.cell? ⟨b, off, none⟩ = some (.int .i64 x0) ∧ w'.cell? ⟨b, off + 1, none⟩ = some (.int .i64 y0) := fun w' h => ⟨by have := box_keep h hblt c0; simpa using this, by have := box_keep h hblt c1; simpa using this⟩
    clear c0 c1
    have HX : More ((w.alloc (.cells #[.int .i64 0, .int .i64 0] 25)).alloc (.cells #[.int .i64 0, .int .i64 0] 25)) ((w.alloc (.cells #[.int .i64 0, .int .i64 0] 25)).alloc (.cells #[.int .i64 0, .int .i64 0] 25)) := More.refl _
    have HB : ∀ w', More ((w.alloc (.cells #[.int .i64 0, .int .i64 0] 25)).alloc (.cells #[.int .i64 0, .int .i64 0] 25)) w' → w'.cell? ⟨w.heap.size, 0, none⟩ = some (.int .i64 0) ∧ w'.cell? ⟨w.heap.size, 1, none⟩ = some (.int .i64 0) ∧ (∀ j, w'.frozen? ⟨w.heap.size, j, none⟩ = false) ∧ w'.cell? ⟨w.heap.size + 1, 0, none⟩ = some (.int .i64 0) ∧ w'.cell? ⟨w.heap.size + 1, 1, none⟩ = some (.int .i64 0) ∧ (∀ j, w'.frozen? ⟨w.heap.size + 1, j, none⟩ = false) := fun w' h => ⟨box_new (by simp) (More.un h) 0, box_new (by simp) (More.un h) 1, fun j => box_free (by simp) (More.un h) j, box_new (by simp) h 0, box_new (by simp) h 1, fun j => box_free (by simp) h j⟩
    go_enter Try.func13, Try.ntmps13
    go_wp2_with (go_at_call 58; refine (spec_IsPolygon _ l _ (Ty.at_more HV0.out mC) HL.out).mono ?_; rintro e w1 ⟨rfl, hb1⟩; rw [HP.out]; have HX : More ((w.alloc (.cells #[.int .i64 0, .int .i64 0] 25)).alloc (.cells #[.int .i64 0, .int .i64 0] 25)) _ := More.trans (by assumption) hb1; have HBw := HB _ HX; have D0 := C0 w1 mC; have hbl1 : b < w1.heap.size := Nat.lt_of_lt_of_le hblt (More.size (show More w w1 from mC)); have hsz1 : w.heap.size + 1 < w1.heap.size := (by have := hb1.size; simp at this; omega))
    go_loopw [22] (fun i wr => ∃ k : Nat, k ≤ n ∧ i = .int .i64 k ∧ More ((w.alloc (.cells #[.int .i64 0, .int .i64 0] 25)).alloc (.cells #[.int .i64 0, .int .i64 0] 25)) wr ∧ w1.heap.size + 1 < wr.heap.size ∧ ∃ a b c d : Int, Hid (loK l k = (a, b)) ∧ Hid (hiK l k = (c, d)) ∧ wr.cell? ⟨w1.heap.size, 0, none⟩ = some (.int .i64 a) ∧ wr.cell? ⟨w1.heap.size, 1, none⟩ = some (.int .i64 b) ∧ wr.cell? ⟨w1.heap.size + 1, 0, none⟩ = some (.int .i64 c) ∧ wr.cell? ⟨w1.heap.size + 1, 1, none⟩ = some (.int .i64 d) ∧ (∀ j, wr.frozen? ⟨w1.heap.size, j, none⟩ = false) ∧ (∀ j, wr.frozen? ⟨w1.heap.size + 1, j, none⟩ = false)) (fun i _ => n - (intOf i).toNat)
    case atStart => exact ⟨0, Nat.zero_le _, rfl, mC, (by simp), x0, y0, x0, y0, Lib.hid (head_eq HX0.out), Lib.hid (head_eq HX0.out), box_new rfl (More.un (More.refl _)) 0, box_new rfl (More.un (More.refl _)) 1, box_new (by simp) (More.refl _) 0, box_new (by simp) (More.refl _) 1, (fun j => box_free rfl (More.un (More.refl _)) j), fun j => box_free (by simp) (More.refl _) j⟩
    case round =>
      clear HBw HX
      obtain ⟨k, hk, rfl, hm, hsz, a, b', c', d', HLO, HHI, l0, l1, l2, l3, f5, f6⟩ := hrel
      have hmw : More w wr := More.trans (show More w ((w.alloc (.cells #[.int .i64 0, .int .i64 0] 25)).alloc (.cells #[.int .i64 0, .int .i64 0] 25)) from mC) hm
      by_cases hlt : k < n
      · obtain ⟨b2, off2, x, y, hadr, hblt2, hx, ox, oy, c0, c1⟩ := vec_el (Ty.at_more HV.out hmw) (k := k) (by rw [← HN.out]; exact hlt)
        simp only [Option.some.injEq, Addr.mk.injEq] at hadr
        obtain ⟨rfl, rfl, -⟩ := hadr
        have HX := Lib.hid hx; clear hx
        have n5 : w1.heap.size < wr.heap.size := by omega
        have n6 : w1.heap.size + 1 < wr.heap.size := by omega
        have m0 : More wr (wr.alloc (.cells #[.int .i64 x, .int .i64 y] 25)) := Turns.more ((Turns.refl [] _).alloc _)
        have q0_0 : (wr.alloc (.cells #[.int .i64 x, .int .i64 y] 25)).cell? ⟨w1.heap.size, 0, none⟩ = some (.int .i64 a) := box_keep m0 (by omega) l0
        have q0_1 : (wr.alloc (.cells #[.int .i64 x, .int .i64 y] 25)).cell? ⟨w1.heap.size, 1, none⟩ = some (.int .i64 b') := box_keep m0 (by omega) l1
        have q0_2 : (wr.alloc (.cells #[.int .i64 x, .int .i64 y] 25)).cell? ⟨w1.heap.size + 1, 0, none⟩ = some (.int .i64 c') := box_keep m0 (by omega) l2
        have q0_3 : (wr.alloc (.cells #[.int .i64 x, .int .i64 y] 25)).cell? ⟨w1.heap.size + 1, 1, none⟩ = some (.int .i64 d') := box_keep m0 (by omega) l3
        have q0_4 : (wr.alloc (.cells #[.int .i64 x, .int .i64 y] 25)).cell? ⟨wr.heap.size, 0, none⟩ = some (.int .i64 x) := box_new rfl (More.refl _) 0
        have q0_5 : (wr.alloc (.cells #[.int .i64 x, .int .i64 y] 25)).cell? ⟨wr.heap.size, 1, none⟩ = some (.int .i64 y) := box_new rfl (More.refl _) 1
        have r0_5 : ∀ j, (wr.alloc (.cells #[.int .i64 x, .int .i64 y] 25)).frozen? ⟨w1.heap.size, j, none⟩ = false := fun j => free_keep m0 (by omega) (f5 j)
        have r0_6 : ∀ j, (wr.alloc (.cells #[.int .i64 x, .int .i64 y] 25)).frozen? ⟨w1.heap.size + 1, j, none⟩ = false := fun j => free_keep m0 (by omega) (f6 j)
        go_wp2_with fail
        refine (spec_l07Min _ _ _).mono ?_
        rintro e v1 ⟨rfl, hb2⟩
        have z1 : wr.heap.size < v1.heap.size := by have h := hb2.size; simp at h; omega
        have p1_0 : v1.cell? ⟨w1.heap.size, 0, none⟩ = some (.int .i64 (a)) := box_keep hb2 (by simp <;> omega) q0_0
        have p1_1 : v1.cell? ⟨w1.heap.size, 1, none⟩ = some (.int .i64 (b')) := box_keep hb2 (by simp <;> omega) q0_1
        have p1_2 : v1.cell? ⟨w1.heap.size + 1, 0, none⟩ = some (.int .i64 (c')) := box_keep hb2 (by simp <;> omega) q0_2
        have p1_3 : v1.cell? ⟨w1.heap.size + 1, 1, none⟩ = some (.int .i64 (d')) := box_keep hb2 (by simp <;> omega) q0_3
        have p1_4 : v1.cell? ⟨wr.heap.size, 0, none⟩ = some (.int .i64 (x)) := box_keep hb2 (by simp <;> omega) q0_4
        have p1_5 : v1.cell? ⟨wr.heap.size, 1, none⟩ = some (.int .i64 (y)) := box_keep hb2 (by simp <;> omega) q0_5
        have s1_5 : ∀ j, v1.frozen? ⟨w1.heap.size, j, none⟩ = false := fun j => free_keep hb2 (by simp <;> omega) (r0_5 j)
        have s1_6 : ∀ j, v1.frozen? ⟨w1.heap.size + 1, j, none⟩ = false := fun j => free_keep hb2 (by simp <;> omega) (r0_6 j)
        have q1_0 : (v1.setCell ⟨w1.heap.size, 0, none⟩ (.int .i64 (min a x))).cell? ⟨w1.heap.size, 0, none⟩ = some (.int .i64 (min a x)) := World.cell?_setCell_same _ _ _ p1_0
        have q1_1 : (v1.setCell ⟨w1.heap.size, 0, none⟩ (.int .i64 (min a x))).cell? ⟨w1.heap.size, 1, none⟩ = some (.int .i64 (b')) := (World.cell?_setCell_other _ _ _ _ (by simp <;> omega)).trans p1_1
        have q1_2 : (v1.setCell ⟨w1.heap.size, 0, none⟩ (.int .i64 (min a x))).cell? ⟨w1.heap.size + 1, 0, none⟩ = some (.int .i64 (c')) := (World.cell?_setCell_other _ _ _ _ (by simp <;> omega)).trans p1_2
        have q1_3 : (v1.setCell ⟨w1.heap.size, 0, none⟩ (.int .i64 (min a x))).cell? ⟨w1.heap.size + 1, 1, none⟩ = some (.int .i64 (d')) := (World.cell?_setCell_other _ _ _ _ (by simp <;> omega)).trans p1_3
        have q1_4 : (v1.setCell ⟨w1.heap.size, 0, none⟩ (.int .i64 (min a x))).cell? ⟨wr.heap.size, 0, none⟩ = some (.int .i64 (x)) := (World.cell?_setCell_other _ _ _ _ (by simp <;> omega)).trans p1_4
        have q1_5 : (v1.setCell ⟨w1.heap.size, 0, none⟩ (.int .i64 (min a x))).cell? ⟨wr.heap.size, 1, none⟩ = some (.int .i64 (y)) := (World.cell?_setCell_other _ _ _ _ (by simp <;> omega)).trans p1_5
        have r1_5 : ∀ j, (v1.setCell ⟨w1.heap.size, 0, none⟩ (.int .i64 (min a x))).frozen? ⟨w1.heap.size, j, none⟩ = false := fun j => by rw [World.frozen?_setCell]; exact s1_5 j
        have r1_6 : ∀ j, (v1.setCell ⟨w1.heap.size, 0, none⟩ (.int .i64 (min a x))).frozen? ⟨w1.heap.size + 1, j, none⟩ = false := fun j => by rw [World.frozen?_setCell]; exact s1_6 j
        go_wp2_with fail
        refine (spec_l07Min _ _ _).mono ?_
        rintro e v2 ⟨rfl, hb3⟩
        have z2 : wr.heap.size < v2.heap.size := by have h := hb3.size; simp at h; omega
        have p2_0 : v2.cell? ⟨w1.heap.size, 0, none⟩ = some (.int .i64 (min a x)) := box_keep hb3 (by simp <;> omega) q1_0
        have p2_1 : v2.cell? ⟨w1.heap.size, 1, none⟩ = some (.int .i64 (b')) := box_keep hb3 (by simp <;> omega) q1_1
        have p2_2 : v2.cell? ⟨w1.heap.size + 1, 0, none⟩ = some (.int .i64 (c')) := box_keep hb3 (by simp <;> omega) q1_2
        have p2_3 : v2.cell? ⟨w1.heap.size + 1, 1, none⟩ = some (.int .i64 (d')) := box_keep hb3 (by simp <;> omega) q1_3
        have p2_4 : v2.cell? ⟨wr.heap.size, 0, none⟩ = some (.int .i64 (x)) := box_keep hb3 (by simp <;> omega) q1_4
        have p2_5 : v2.cell? ⟨wr.heap.size, 1, none⟩ = some (.int .i64 (y)) := box_keep hb3 (by simp <;> omega) q1_5
        have s2_5 : ∀ j, v2.frozen? ⟨w1.heap.size, j, none⟩ = false := fun j => free_keep hb3 (by simp <;> omega) (r1_5 j)
        have s2_6 : ∀ j, v2.frozen? ⟨w1.heap.size + 1, j, none⟩ = false := fun j => free_keep hb3 (by simp <;> omega) (r1_6 j)
        have q2_0 : (v2.setCell ⟨w1.heap.size, 1, none⟩ (.int .i64 (min b' y))).cell? ⟨w1.heap.size, 0, none⟩ = some (.int .i64 (min a x)) := (World.cell?_setCell_other _ _ _ _ (by simp <;> omega)).trans p2_0
        have q2_1 : (v2.setCell ⟨w1.heap.size, 1, none⟩ (.int .i64 (min b' y))).cell? ⟨w1.heap.size, 1, none⟩ = some (.int .i64 (min b' y)) := World.cell?_setCell_same _ _ _ p2_1
        have q2_2 : (v2.setCell ⟨w1.heap.size, 1, none⟩ (.int .i64 (min b' y))).cell? ⟨w1.heap.size + 1, 0, none⟩ = some (.int .i64 (c')) := (World.cell?_setCell_other _ _ _ _ (by simp <;> omega)).trans p2_2
        have q2_3 : (v2.setCell ⟨w1.heap.size, 1, none⟩ (.int .i64 (min b' y))).cell? ⟨w1.heap.size + 1, 1, none⟩ = some (.int .i64 (d')) := (World.cell?_setCell_other _ _ _ _ (by simp <;> omega)).trans p2_3
        have q2_4 : (v2.setCell ⟨w1.heap.size, 1, none⟩ (.int .i64 (min b' y))).cell? ⟨wr.heap.size, 0, none⟩ = some (.int .i64 (x)) := (World.cell?_setCell_other _ _ _ _ (by simp <;> omega)).trans p2_4
        have q2_5 : (v2.setCell ⟨w1.heap.size, 1, none⟩ (.int .i64 (min b' y))).cell? ⟨wr.heap.size, 1, none⟩ = some (.int .i64 (y)) := (World.cell?_setCell_other _ _ _ _ (by simp <;> omega)).trans p2_5
        have r2_5 : ∀ j, (v2.setCell ⟨w1.heap.size, 1, none⟩ (.int .i64 (min b' y))).frozen? ⟨w1.heap.size, j, none⟩ = false := fun j => by rw [World.frozen?_setCell]; exact s2_5 j
        have r2_6 : ∀ j, (v2.setCell ⟨w1.heap.size, 1, none⟩ (.int .i64 (min b' y))).frozen? ⟨w1.heap.size + 1, j, none⟩ = false := fun j => by rw [World.frozen?_setCell]; exact s2_6 j
        go_wp2_with fail
        refine (spec_l07Max _ _ _).mono ?_
        rintro e v3 ⟨rfl, hb4⟩
        have z3 : wr.heap.size < v3.heap.size := by have h := hb4.size; simp at h; omega
        have p3_0 : v3.cell? ⟨w1.heap.size, 0, none⟩ = some (.int .i64 (min a x)) := box_keep hb4 (by simp <;> omega) q2_0
        have p3_1 : v3.cell? ⟨w1.heap.size, 1, none⟩ = some (.int .i64 (min b' y)) := box_keep hb4 (by simp <;> omega) q2_1
        have p3_2 : v3.cell? ⟨w1.heap.size + 1, 0, none⟩ = some (.int .i64 (c')) := box_keep hb4 (by simp <;> omega) q2_2
        have p3_3 : v3.cell? ⟨w1.heap.size + 1, 1, none⟩ = some (.int .i64 (d')) := box_keep hb4 (by simp <;> omega) q2_3
        have p3_4 : v3.cell? ⟨wr.heap.size, 0, none⟩ = some (.int .i64 (x)) := box_keep hb4 (by simp <;> omega) q2_4
        have p3_5 : v3.cell? ⟨wr.heap.size, 1, none⟩ = some (.int .i64 (y)) := box_keep hb4 (by simp <;> omega) q2_5
        have s3_5 : ∀ j, v3.frozen? ⟨w1.heap.size, j, none⟩ = false := fun j => free_keep hb4 (by simp <;> omega) (r2_5 j)
        have s3_6 : ∀ j, v3.frozen? ⟨w1.heap.size + 1, j, none⟩ = false := fun j => free_keep hb4 (by simp <;> omega) (r2_6 j)
        have q3_0 : (v3.setCell ⟨w1.heap.size + 1, 0, none⟩ (.int .i64 (max c' x))).cell? ⟨w1.heap.size, 0, none⟩ = some (.int .i64 (min a x)) := (World.cell?_setCell_other _ _ _ _ (by simp <;> omega)).trans p3_0
        have q3_1 : (v3.setCell ⟨w1.heap.size + 1, 0, none⟩ (.int .i64 (max c' x))).cell? ⟨w1.heap.size, 1, none⟩ = some (.int .i64 (min b' y)) := (World.cell?_setCell_other _ _ _ _ (by simp <;> omega)).trans p3_1
        have q3_2 : (v3.setCell ⟨w1.heap.size + 1, 0, none⟩ (.int .i64 (max c' x))).cell? ⟨w1.heap.size + 1, 0, none⟩ = some (.int .i64 (max c' x)) := World.cell?_setCell_same _ _ _ p3_2
        have q3_3 : (v3.setCell ⟨w1.heap.size + 1, 0, none⟩ (.int .i64 (max c' x))).cell? ⟨w1.heap.size + 1, 1, none⟩ = some (.int .i64 (d')) := (World.cell?_setCell_other _ _ _ _ (by simp <;> omega)).trans p3_3
        have q3_4 : (v3.setCell ⟨w1.heap.size + 1, 0, none⟩ (.int .i64 (max c' x))).cell? ⟨wr.heap.size, 0, none⟩ = some (.int .i64 (x)) := (World.cell?_setCell_other _ _ _ _ (by simp <;> omega)).trans p3_4
        have q3_5 : (v3.setCell ⟨w1.heap.size + 1, 0, none⟩ (.int .i64 (max c' x))).cell? ⟨wr.heap.size, 1, none⟩ = some (.int .i64 (y)) := (World.cell?_setCell_other _ _ _ _ (by simp <;> omega)).trans p3_5
        have r3_5 : ∀ j, (v3.setCell ⟨w1.heap.size + 1, 0, none⟩ (.int .i64 (max c' x))).frozen? ⟨w1.heap.size, j, none⟩ = false := fun j => by rw [World.frozen?_setCell]; exact s3_5 j
        have r3_6 : ∀ j, (v3.setCell ⟨w1.heap.size + 1, 0, none⟩ (.int .i64 (max c' x))).frozen? ⟨w1.heap.size + 1, j, none⟩ = false := fun j => by rw [World.frozen?_setCell]; exact s3_6 j
        go_wp2_with fail
        refine (spec_l07Max _ _ _).mono ?_
        rintro e v4 ⟨rfl, hb5⟩
        have z4 : wr.heap.size < v4.heap.size := by have h := hb5.size; simp at h; omega
        have p4_0 : v4.cell? ⟨w1.heap.size, 0, none⟩ = some (.int .i64 (min a x)) := box_keep hb5 (by simp <;> omega) q3_0
        have p4_1 : v4.cell? ⟨w1.heap.size, 1, none⟩ = some (.int .i64 (min b' y)) := box_keep hb5 (by simp <;> omega) q3_1
        have p4_2 : v4.cell? ⟨w1.heap.size + 1, 0, none⟩ = some (.int .i64 (max c' x)) := box_keep hb5 (by simp <;> omega) q3_2
        have p4_3 : v4.cell? ⟨w1.heap.size + 1, 1, none⟩ = some (.int .i64 (d')) := box_keep hb5 (by simp <;> omega) q3_3
        have p4_4 : v4.cell? ⟨wr.heap.size, 0, none⟩ = some (.int .i64 (x)) := box_keep hb5 (by simp <;> omega) q3_4
        have p4_5 : v4.cell? ⟨wr.heap.size, 1, none⟩ = some (.int .i64 (y)) := box_keep hb5 (by simp <;> omega) q3_5
        have s4_5 : ∀ j, v4.frozen? ⟨w1.heap.size, j, none⟩ = false := fun j => free_keep hb5 (by simp <;> omega) (r3_5 j)
        have s4_6 : ∀ j, v4.frozen? ⟨w1.heap.size + 1, j, none⟩ = false := fun j => free_keep hb5 (by simp <;> omega) (r3_6 j)
        have q4_0 : (v4.setCell ⟨w1.heap.size + 1, 1, none⟩ (.int .i64 (max d' y))).cell? ⟨w1.heap.size, 0, none⟩ = some (.int .i64 (min a x)) := (World.cell?_setCell_other _ _ _ _ (by simp <;> omega)).trans p4_0
        have q4_1 : (v4.setCell ⟨w1.heap.size + 1, 1, none⟩ (.int .i64 (max d' y))).cell? ⟨w1.heap.size, 1, none⟩ = some (.int .i64 (min b' y)) := (World.cell?_setCell_other _ _ _ _ (by simp <;> omega)).trans p4_1
        have q4_2 : (v4.setCell ⟨w1.heap.size + 1, 1, none⟩ (.int .i64 (max d' y))).cell? ⟨w1.heap.size + 1, 0, none⟩ = some (.int .i64 (max c' x)) := (World.cell?_setCell_other _ _ _ _ (by simp <;> omega)).trans p4_2
        have q4_3 : (v4.setCell ⟨w1.heap.size + 1, 1, none⟩ (.int .i64 (max d' y))).cell? ⟨w1.heap.size + 1, 1, none⟩ = some (.int .i64 (max d' y)) := World.cell?_setCell_same _ _ _ p4_3
        have q4_4 : (v4.setCell ⟨w1.heap.size + 1, 1, none⟩ (.int .i64 (max d' y))).cell? ⟨wr.heap.size, 0, none⟩ = some (.int .i64 (x)) := (World.cell?_setCell_other _ _ _ _ (by simp <;> omega)).trans p4_4
        have q4_5 : (v4.setCell ⟨w1.heap.size + 1, 1, none⟩ (.int .i64 (max d' y))).cell? ⟨wr.heap.size, 1, none⟩ = some (.int .i64 (y)) := (World.cell?_setCell_other _ _ _ _ (by simp <;> omega)).trans p4_5
        have r4_5 : ∀ j, (v4.setCell ⟨w1.heap.size + 1, 1, none⟩ (.int .i64 (max d' y))).frozen? ⟨w1.heap.size, j, none⟩ = false := fun j => by rw [World.frozen?_setCell]; exact s4_5 j
        have r4_6 : ∀ j, (v4.setCell ⟨w1.heap.size + 1, 1, none⟩ (.int .i64 (max d' y))).frozen? ⟨w1.heap.size + 1, j, none⟩ = false := fun j => by rw [World.frozen?_setCell]; exact s4_6 j
        go_wp2_with fail
        go_roundw
        case rel => exact ⟨k + 1, by omega, by go_num, (by clear hmw; exact mC2), (by simp; omega), min a x, min b' y, max c' x, max d' y, Lib.hid (by rw [loK_next HX.out, HLO.out]; rfl), Lib.hid (by rw [hiK_next HX.out, HHI.out]; rfl), q4_0, q4_1, q4_2, q4_3, r4_5, r4_6⟩
        case measure => simp [intOf]; omega
      · have HBw := HB _ hm
        go_wp2_with fail
        go_region
        all_goals
          go_wp2_with fail
          obtain rfl : k = n := by omega
          have e1 := HLO.out; have e2 := HHI.out
          rw [e1, e2]
          refine bodyPost_ret (v := .tuple #[.agg #[.int .i64 a, .int .i64 b'], .agg #[.int .i64 c', .int .i64 d'], .bool true]) ?_ rfl ⟨rfl, ?_⟩
          · simp [results, Try.results13, go_sem, *]
          · exact mC2
end Go.Proofs.Ytlidkddicnfmaaa
