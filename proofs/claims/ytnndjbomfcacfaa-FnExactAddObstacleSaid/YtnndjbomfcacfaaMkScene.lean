/- markScene, heldScene: marks in what a value owns. -/
import Derived.Test.YtnndjbomfcacfaaMkVecSS
import Derived.Test.YtnndjbomfcacfaaGMk
import Derived.Deep.RegionHeld3
namespace Go.Proofs.Ytnndjbomfcacfaa
open Go.RowKit
set_option maxHeartbeats 3200000 in
theorem laws_markScene_ (bs : List Nat) (cs : List Value) (x : QScene) (q : Int) (w : World) (hv : tScene.own bs w cs x) (hnd : bs.Nodup) (h0 : 0 ≤ q) (h1 : q + (cScene x : Nat) ≤ 1000000000) (hl : wScene x ≤ 1048576) :
    Calls Try.prog 13 #[.agg cs.toArray, .int .i64 q] w fun e w' => e = .returned (.int .i64 (q + (cScene x : Nat))) ∧ Turns bs w w' ∧ tScene.own bs w' cs (mkScene x q) := by
  obtain ⟨b0, d0, c0, e0, rfl, rfl, f0, g0⟩ := hv
  obtain ⟨b1, d1, c1, e1, rfl, rfl, f1, g1⟩ := g0
  obtain ⟨b2, d2, c2, e2, rfl, rfl, f2, g2⟩ := g1
  obtain ⟨b3, d3, c3, e3, rfl, rfl, f3, g3⟩ := g2
  obtain ⟨rfl, rfl, o0⟩ := (fVec.own_iff _ _ _ _).1 f0
  obtain ⟨rfl, rfl, o1⟩ := (fVec.own_iff _ _ _ _).1 f1
  obtain ⟨z2a0, z2n0, z2c0, rfl⟩ := sh_slice (Ty.rd_at ((tSlice _).own_rd f2))
  obtain ⟨z3a0, z3n0, z3c0, rfl⟩ := sh_slice (Ty.rd_at ((tSlice _).own_rd f3))
  obtain ⟨z4a0, z4n0, z4c0, rfl⟩ := sh_slice (Ty.rd_at ((tSlice _).own_rd g3))
  have hnb_ : (b2 ++ (b3 ++ (d3))).Nodup := by simpa [List.append_assoc] using hnd
  simp only [List.nodup_append] at hnb_
  obtain ⟨n0_, ⟨n1_, n2_, d1_⟩, d0_⟩ := hnb_
  have nb2 : w.heap.size ∉ b2 := fun h => by have := tVecs.own_lt f2 _ h; omega
  have O2 := Lib.hid (Ty.own_more f2 (Turns.more ((Turns.refl [] w).alloc (.cells #[.int .i64 x.1.1, .int .i64 x.1.2, .int .i64 x.2.1.1, .int .i64 x.2.1.2, .slice z2a0 z2n0 z2c0, .slice z3a0 z3n0 z3c0, .slice z4a0 z4n0 z4c0] 34)))); clear f2
  have nb3 : w.heap.size ∉ b3 := fun h => by have := tVecSS.own_lt f3 _ h; omega
  have O3 := Lib.hid (Ty.own_more f3 (Turns.more ((Turns.refl [] w).alloc (.cells #[.int .i64 x.1.1, .int .i64 x.1.2, .int .i64 x.2.1.1, .int .i64 x.2.1.2, .slice z2a0 z2n0 z2c0, .slice z3a0 z3n0 z3c0, .slice z4a0 z4n0 z4c0] 34)))); clear f3
  have nb4 : w.heap.size ∉ d3 := fun h => by have := tVecs.own_lt g3 _ h; omega
  have O4 := Lib.hid (Ty.own_more g3 (Turns.more ((Turns.refl [] w).alloc (.cells #[.int .i64 x.1.1, .int .i64 x.1.2, .int .i64 x.2.1.1, .int .i64 x.2.1.2, .slice z2a0 z2n0 z2c0, .slice z3a0 z3n0 z3c0, .slice z4a0 z4n0 z4c0] 34)))); clear g3
  have HL := Lib.hid hl; clear hl; have HC : Hid (cScene x = cVecS x.2.2.1 + cVecSS x.2.2.2.1 + cVecS x.2.2.2.2) := Lib.hid rfl
  have hC := HC.out; rw [hC] at h1; clear hC
  show Calls Try.prog 13 #[.agg #[.int .i64 x.1.1, .int .i64 x.1.2, .int .i64 x.2.1.1, .int .i64 x.2.1.2, .slice z2a0 z2n0 z2c0, .slice z3a0 z3n0 z3c0, .slice z4a0 z4n0 z4c0], .int .i64 q] w _
  go_enter Try.func13, Try.ntmps13
  go_wp2_with fail
  refine (laws_markVecS_ b2 _ x.2.2.1 _ _ O2.out n0_ (by omega) (by omega) (by have := HL.out; unfold wScene at this; omega)).mono ?_
  rintro e w1 ⟨rfl, T1, P2⟩
  have O2x := Lib.hid P2; clear P2 O2; have O2 := O2x; clear O2x
  have O3x := Lib.hid (Ty.own_turns O3.out T1 (fun k hk hk' => d0_ k hk' k (by simp [hk]) rfl)); clear O3; have O3 := O3x; clear O3x
  have O4x := Lib.hid (Ty.own_turns O4.out T1 (fun k hk hk' => d0_ k hk' k (by simp [hk]) rfl)); clear O4; have O4 := O4x; clear O4x
  have k1_3_0 : w1.cell? ⟨w.heap.size, 5, none⟩ = some (.slice z3a0 z3n0 z3c0) := turn_cell T1 (by simp) nb2 (box_new rfl (More.refl _) 5)
  have k1_4_0 : w1.cell? ⟨w.heap.size, 6, none⟩ = some (.slice z4a0 z4n0 z4c0) := turn_cell T1 (by simp) nb2 (box_new rfl (More.refl _) 6)
  have hz1 : w.heap.size < w1.heap.size := by have := T1.size; (try simp at this); omega
  go_wp2_with fail
  refine (laws_markVecSS_ b3 _ x.2.2.2.1 _ _ O3.out n1_ (by omega) (by omega) (by have := HL.out; unfold wScene at this; omega)).mono ?_
  rintro e w2 ⟨rfl, T2, P3⟩
  have O2x := Lib.hid (Ty.own_turns O2.out T2 (fun k hk hk' => d0_ k hk k (by simp [hk']) rfl)); clear O2; have O2 := O2x; clear O2x
  have O3x := Lib.hid P3; clear P3 O3; have O3 := O3x; clear O3x
  have O4x := Lib.hid (Ty.own_turns O4.out T2 (fun k hk hk' => d1_ k hk' k (by simp [hk]) rfl)); clear O4; have O4 := O4x; clear O4x
  have k2_4_0 : w2.cell? ⟨w.heap.size, 6, none⟩ = some (.slice z4a0 z4n0 z4c0) := turn_cell T2 hz1 nb3 k1_4_0
  have hz2 : w.heap.size < w2.heap.size := by have := T2.size; (try simp at this); omega
  go_wp2_with fail
  refine (laws_markVecS_ d3 _ x.2.2.2.2 _ _ O4.out n2_ (by omega) (by omega) (by have := HL.out; unfold wScene at this; omega)).mono ?_
  rintro e w3 ⟨rfl, T3, P4⟩
  have O2x := Lib.hid (Ty.own_turns O2.out T3 (fun k hk hk' => d0_ k hk k (by simp [hk']) rfl)); clear O2; have O2 := O2x; clear O2x
  have O3x := Lib.hid (Ty.own_turns O3.out T3 (fun k hk hk' => d1_ k hk k (by simp [hk']) rfl)); clear O3; have O3 := O3x; clear O3x
  have O4x := Lib.hid P4; clear P4 O4; have O4 := O4x; clear O4x
  have hz3 : w.heap.size < w3.heap.size := by have := T3.size; (try simp at this); omega
  go_wp2_with fail
  go_ret
  exact ⟨ret_int (by rw [HC.out]; try omega), (((((Turns.refl _ w).alloc _).trans (T1.mono (fun k hk => by simp [hk]))).trans (T2.mono (fun k hk => by simp [hk]))).trans (T3.mono (fun k hk => by simp [hk]))), ⟨[], ([] ++ (b2 ++ (b3 ++ d3))), [.int .i64 x.1.1, .int .i64 x.1.2], [.int .i64 x.2.1.1, .int .i64 x.2.1.2, .slice z2a0 z2n0 z2c0, .slice z3a0 z3n0 z3c0, .slice z4a0 z4n0 z4c0], rfl, rfl, (fVec.own_iff _ _ _ _).2 ⟨rfl, rfl, o0⟩, ⟨[], (b2 ++ (b3 ++ d3)), [.int .i64 x.2.1.1, .int .i64 x.2.1.2], [.slice z2a0 z2n0 z2c0, .slice z3a0 z3n0 z3c0, .slice z4a0 z4n0 z4c0], rfl, rfl, (fVec.own_iff _ _ _ _).2 ⟨rfl, rfl, o1⟩, ⟨b2, (b3 ++ d3), [.slice z2a0 z2n0 z2c0], [.slice z3a0 z3n0 z3c0, .slice z4a0 z4n0 z4c0], rfl, rfl, (mk_eq O2.out (by first | rfl | simp only [mkScene, Int.natCast_add, Int.add_assoc])), ⟨b3, d3, [.slice z3a0 z3n0 z3c0], [.slice z4a0 z4n0 z4c0], rfl, rfl, (mk_eq O3.out (by first | rfl | simp only [mkScene, Int.natCast_add, Int.add_assoc])), (mk_eq O4.out (by first | rfl | simp only [mkScene, Int.natCast_add, Int.add_assoc]))⟩⟩⟩⟩⟩
set_option maxHeartbeats 3200000 in
theorem laws_heldScene_ (cs : List Value) (x : QScene) (q : Int) (w : World) (hv : tScene.at w cs (mkScene x q)) (h0 : 0 ≤ q) (h1 : q + (cScene x : Nat) ≤ 1000000000) (hl : wScene x ≤ 1048576) :
    Calls Try.prog 15 #[.agg cs.toArray, .int .i64 q] w fun e w' => e = .returned (.int .i64 (q + (cScene x : Nat))) ∧ More w w' := by
  obtain ⟨k0, d0, rfl, f0, e0⟩ := at_prod hv
  obtain ⟨k1, d1, rfl, f1, e1⟩ := at_prod e0
  obtain ⟨k2, d2, rfl, f2, e2⟩ := at_prod e1
  obtain ⟨k3, d3, rfl, f3, e3⟩ := at_prod e2
  have f4 := e3; clear e3
  obtain rfl := sh_Vec f0
  obtain rfl := sh_Vec f1
  obtain ⟨z2a0, z2n0, z2c0, rfl⟩ := sh_slice f2
  have F2 := Lib.hid (mk_at (y := mkVecS x.2.2.1 (q)) f2 (by first | rfl | simp only [mkScene, Int.natCast_add, Int.add_assoc])); clear f2
  obtain ⟨z3a0, z3n0, z3c0, rfl⟩ := sh_slice f3
  have F3 := Lib.hid (mk_at (y := mkVecSS x.2.2.2.1 (q + ((cVecS x.2.2.1 : Nat) : Int))) f3 (by first | rfl | simp only [mkScene, Int.natCast_add, Int.add_assoc])); clear f3
  obtain ⟨z4a0, z4n0, z4c0, rfl⟩ := sh_slice f4
  have F4 := Lib.hid (mk_at (y := mkVecS x.2.2.2.2 (q + ((cVecS x.2.2.1 : Nat) : Int) + ((cVecSS x.2.2.2.1 : Nat) : Int))) f4 (by first | rfl | simp only [mkScene, Int.natCast_add, Int.add_assoc])); clear f4
  have HL := Lib.hid hl; clear hl; have HC : Hid (cScene x = cVecS x.2.2.1 + cVecSS x.2.2.2.1 + cVecS x.2.2.2.2) := Lib.hid rfl
  have hC := HC.out; rw [hC] at h1; clear hC
  show Calls Try.prog 15 #[.agg #[.int .i64 x.1.1, .int .i64 x.1.2, .int .i64 x.2.1.1, .int .i64 x.2.1.2, .slice z2a0 z2n0 z2c0, .slice z3a0 z3n0 z3c0, .slice z4a0 z4n0 z4c0], .int .i64 q] w _
  have HX : More (w.alloc (.cells #[.int .i64 x.1.1, .int .i64 x.1.2, .int .i64 x.2.1.1, .int .i64 x.2.1.2, .slice z2a0 z2n0 z2c0, .slice z3a0 z3n0 z3c0, .slice z4a0 z4n0 z4c0] 34)) (w.alloc (.cells #[.int .i64 x.1.1, .int .i64 x.1.2, .int .i64 x.2.1.1, .int .i64 x.2.1.2, .slice z2a0 z2n0 z2c0, .slice z3a0 z3n0 z3c0, .slice z4a0 z4n0 z4c0] 34)) := More.refl _
  have HB : ∀ w', More (w.alloc (.cells #[.int .i64 x.1.1, .int .i64 x.1.2, .int .i64 x.2.1.1, .int .i64 x.2.1.2, .slice z2a0 z2n0 z2c0, .slice z3a0 z3n0 z3c0, .slice z4a0 z4n0 z4c0] 34)) w' → w'.cell? ⟨w.heap.size, 0, none⟩ = some (.int .i64 x.1.1) ∧ w'.cell? ⟨w.heap.size, 1, none⟩ = some (.int .i64 x.1.2) ∧ w'.cell? ⟨w.heap.size, 2, none⟩ = some (.int .i64 x.2.1.1) ∧ w'.cell? ⟨w.heap.size, 3, none⟩ = some (.int .i64 x.2.1.2) ∧ w'.cell? ⟨w.heap.size, 4, none⟩ = some (.slice z2a0 z2n0 z2c0) ∧ w'.cell? ⟨w.heap.size, 5, none⟩ = some (.slice z3a0 z3n0 z3c0) ∧ w'.cell? ⟨w.heap.size, 6, none⟩ = some (.slice z4a0 z4n0 z4c0) ∧ (∀ j, w'.frozen? ⟨w.heap.size, j, none⟩ = false) := fun w' h => ⟨box_new (by simp) h 0, box_new (by simp) h 1, box_new (by simp) h 2, box_new (by simp) h 3, box_new (by simp) h 4, box_new (by simp) h 5, box_new (by simp) h 6, fun j => box_free (by simp) h j⟩
  go_enter Try.func15, Try.ntmps15
  go_wp2_with fail
  refine (laws_heldVecS_ _ x.2.2.1 _ _ (Ty.at_more F2.out mC) (by omega) (by omega) (by have := HL.out; unfold wScene at this; omega)).mono ?_
  rintro e w1 ⟨rfl, hb1⟩; have HX : More (w.alloc (.cells #[.int .i64 x.1.1, .int .i64 x.1.2, .int .i64 x.2.1.1, .int .i64 x.2.1.2, .slice z2a0 z2n0 z2c0, .slice z3a0 z3n0 z3c0, .slice z4a0 z4n0 z4c0] 34)) _ := More.trans (by assumption) hb1; have HBw := HB _ HX
  have g0 : ¬ (q + ((cVecS x.2.2.1 : Nat) : Int) < 0) := by omega
  go_wp2_with fail
  refine (laws_heldVecSS_ _ x.2.2.2.1 _ _ (Ty.at_more F3.out mC) (by omega) (by omega) (by have := HL.out; unfold wScene at this; omega)).mono ?_
  rintro e w2 ⟨rfl, hb1⟩; have HX : More (w.alloc (.cells #[.int .i64 x.1.1, .int .i64 x.1.2, .int .i64 x.2.1.1, .int .i64 x.2.1.2, .slice z2a0 z2n0 z2c0, .slice z3a0 z3n0 z3c0, .slice z4a0 z4n0 z4c0] 34)) _ := More.trans (by assumption) hb1; have HBw := HB _ HX
  have g1 : ¬ (q + ((cVecS x.2.2.1 : Nat) : Int) + ((cVecSS x.2.2.2.1 : Nat) : Int) < 0) := by omega
  go_wp2_with fail
  refine (laws_heldVecS_ _ x.2.2.2.2 _ _ (Ty.at_more F4.out mC) (by omega) (by omega) (by have := HL.out; unfold wScene at this; omega)).mono ?_
  rintro e w3 ⟨rfl, hb1⟩; have HX : More (w.alloc (.cells #[.int .i64 x.1.1, .int .i64 x.1.2, .int .i64 x.2.1.1, .int .i64 x.2.1.2, .slice z2a0 z2n0 z2c0, .slice z3a0 z3n0 z3c0, .slice z4a0 z4n0 z4c0] 34)) _ := More.trans (by assumption) hb1; have HBw := HB _ HX
  have g2 : ¬ (q + ((cVecS x.2.2.1 : Nat) : Int) + ((cVecSS x.2.2.2.1 : Nat) : Int) + ((cVecS x.2.2.2.2 : Nat) : Int) < 0) := by omega
  go_wp2_with fail
  go_ret
  exact ⟨ret_int (by rw [HC.out]; try omega), mC⟩
end Go.Proofs.Ytnndjbomfcacfaa
