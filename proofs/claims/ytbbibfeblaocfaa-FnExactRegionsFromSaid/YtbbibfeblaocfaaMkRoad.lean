/- markRoad, heldRoad: marks in what a value owns. -/
import Derived.Test.YtbbibfeblaocfaaMkScene
import Derived.Test.YtbbibfeblaocfaaMkSliceS
import Derived.Test.YtbbibfeblaocfaaMkIntSS
import Derived.Test.YtbbibfeblaocfaaGMk
import Derived.Deep.RegionHeld3
namespace Go.Proofs.Ytbbibfeblaocfaa
open Go.RowKit
set_option maxHeartbeats 3200000 in
theorem laws_markRoad_ (bs : List Nat) (cs : List Value) (x : QRoad) (q : Int) (w : World) (hv : tRoad.own bs w cs x) (hnd : bs.Nodup) (h0 : 0 ≤ q) (h1 : q + (cRoad x : Nat) ≤ 1000000000) (hl : wRoad x ≤ 1048576) :
    Calls Try.prog 42 #[.agg cs.toArray, .int .i64 q] w fun e w' => e = .returned (.int .i64 (q + (cRoad x : Nat))) ∧ Turns bs w w' ∧ tRoad.own bs w' cs (mkRoad x q) := by
  obtain ⟨b0, d0, c0, e0, rfl, rfl, f0, g0⟩ := hv
  obtain ⟨b1, d1, c1, e1, rfl, rfl, f1, g1⟩ := g0
  obtain ⟨b2, d2, c2, e2, rfl, rfl, f2, g2⟩ := g1
  obtain ⟨z0a4, z0n4, z0c4, z0a5, z0n5, z0c5, z0a6, z0n6, z0c6, rfl⟩ := sh_Scene (Ty.rd_at (tScene.own_rd f0))
  obtain ⟨z1a0, z1n0, z1c0, rfl⟩ := sh_slice (Ty.rd_at ((tSlice _).own_rd f1))
  obtain ⟨z2a0, z2n0, z2c0, rfl⟩ := sh_slice (Ty.rd_at ((tSlice _).own_rd f2))
  obtain ⟨z3a0, z3n0, z3c0, rfl⟩ := sh_slice (Ty.rd_at ((tSlice _).own_rd g2))
  have hnb_ : (b0 ++ (b1 ++ (b2 ++ (d2)))).Nodup := by simpa [List.append_assoc] using hnd
  simp only [List.nodup_append] at hnb_
  obtain ⟨n0_, ⟨n1_, ⟨n2_, n3_, d2_⟩, d1_⟩, d0_⟩ := hnb_
  have nb0 : w.heap.size ∉ b0 := fun h => by have := tScene.own_lt f0 _ h; omega
  have O0 := Lib.hid (Ty.own_more f0 (Turns.more ((Turns.refl [] w).alloc (.cells #[.int .i64 x.1.1.1, .int .i64 x.1.1.2, .int .i64 x.1.2.1.1, .int .i64 x.1.2.1.2, .slice z0a4 z0n4 z0c4, .slice z0a5 z0n5 z0c5, .slice z0a6 z0n6 z0c6, .slice z1a0 z1n0 z1c0, .slice z2a0 z2n0 z2c0, .slice z3a0 z3n0 z3c0] 80)))); clear f0
  have nb1 : w.heap.size ∉ b1 := fun h => by have := tSlcS.own_lt f1 _ h; omega
  have O1 := Lib.hid (Ty.own_more f1 (Turns.more ((Turns.refl [] w).alloc (.cells #[.int .i64 x.1.1.1, .int .i64 x.1.1.2, .int .i64 x.1.2.1.1, .int .i64 x.1.2.1.2, .slice z0a4 z0n4 z0c4, .slice z0a5 z0n5 z0c5, .slice z0a6 z0n6 z0c6, .slice z1a0 z1n0 z1c0, .slice z2a0 z2n0 z2c0, .slice z3a0 z3n0 z3c0] 80)))); clear f1
  have nb2 : w.heap.size ∉ b2 := fun h => by have := tInts.own_lt f2 _ h; omega
  have O2 := Lib.hid (Ty.own_more f2 (Turns.more ((Turns.refl [] w).alloc (.cells #[.int .i64 x.1.1.1, .int .i64 x.1.1.2, .int .i64 x.1.2.1.1, .int .i64 x.1.2.1.2, .slice z0a4 z0n4 z0c4, .slice z0a5 z0n5 z0c5, .slice z0a6 z0n6 z0c6, .slice z1a0 z1n0 z1c0, .slice z2a0 z2n0 z2c0, .slice z3a0 z3n0 z3c0] 80)))); clear f2
  have nb3 : w.heap.size ∉ d2 := fun h => by have := tIntSS.own_lt g2 _ h; omega
  have O3 := Lib.hid (Ty.own_more g2 (Turns.more ((Turns.refl [] w).alloc (.cells #[.int .i64 x.1.1.1, .int .i64 x.1.1.2, .int .i64 x.1.2.1.1, .int .i64 x.1.2.1.2, .slice z0a4 z0n4 z0c4, .slice z0a5 z0n5 z0c5, .slice z0a6 z0n6 z0c6, .slice z1a0 z1n0 z1c0, .slice z2a0 z2n0 z2c0, .slice z3a0 z3n0 z3c0] 80)))); clear g2
  have HL := Lib.hid hl; clear hl; have HC : Hid (cRoad x = cScene x.1 + cSliceS x.2.1 + cIntS x.2.2.1 + cIntSS x.2.2.2) := Lib.hid rfl
  have hC := HC.out; rw [hC] at h1; clear hC
  show Calls Try.prog 42 #[.agg #[.int .i64 x.1.1.1, .int .i64 x.1.1.2, .int .i64 x.1.2.1.1, .int .i64 x.1.2.1.2, .slice z0a4 z0n4 z0c4, .slice z0a5 z0n5 z0c5, .slice z0a6 z0n6 z0c6, .slice z1a0 z1n0 z1c0, .slice z2a0 z2n0 z2c0, .slice z3a0 z3n0 z3c0], .int .i64 q] w _
  go_enter Try.func42, Try.ntmps42
  go_wp2_with fail
  refine (laws_markScene_ b0 _ x.1 _ _ O0.out n0_ (by omega) (by omega) (by have := HL.out; unfold wRoad at this; omega)).mono ?_
  rintro e w1 ⟨rfl, T1, P0⟩
  have O0x := Lib.hid P0; clear P0 O0; have O0 := O0x; clear O0x
  have O1x := Lib.hid (Ty.own_turns O1.out T1 (fun k hk hk' => d0_ k hk' k (by simp [hk]) rfl)); clear O1; have O1 := O1x; clear O1x
  have O2x := Lib.hid (Ty.own_turns O2.out T1 (fun k hk hk' => d0_ k hk' k (by simp [hk]) rfl)); clear O2; have O2 := O2x; clear O2x
  have O3x := Lib.hid (Ty.own_turns O3.out T1 (fun k hk hk' => d0_ k hk' k (by simp [hk]) rfl)); clear O3; have O3 := O3x; clear O3x
  have k1_1_0 : w1.cell? ⟨w.heap.size, 7, none⟩ = some (.slice z1a0 z1n0 z1c0) := turn_cell T1 (by simp) nb0 (box_new rfl (More.refl _) 7)
  have k1_2_0 : w1.cell? ⟨w.heap.size, 8, none⟩ = some (.slice z2a0 z2n0 z2c0) := turn_cell T1 (by simp) nb0 (box_new rfl (More.refl _) 8)
  have k1_3_0 : w1.cell? ⟨w.heap.size, 9, none⟩ = some (.slice z3a0 z3n0 z3c0) := turn_cell T1 (by simp) nb0 (box_new rfl (More.refl _) 9)
  have hz1 : w.heap.size < w1.heap.size := by have := T1.size; (try simp at this); omega
  go_wp2_with fail
  refine (laws_markSliceS_ b1 _ x.2.1 _ _ O1.out n1_ (by omega) (by omega) (by have := HL.out; unfold wRoad at this; omega)).mono ?_
  rintro e w2 ⟨rfl, T2, P1⟩
  have O0x := Lib.hid (Ty.own_turns O0.out T2 (fun k hk hk' => d0_ k hk k (by simp [hk']) rfl)); clear O0; have O0 := O0x; clear O0x
  have O1x := Lib.hid P1; clear P1 O1; have O1 := O1x; clear O1x
  have O2x := Lib.hid (Ty.own_turns O2.out T2 (fun k hk hk' => d1_ k hk' k (by simp [hk]) rfl)); clear O2; have O2 := O2x; clear O2x
  have O3x := Lib.hid (Ty.own_turns O3.out T2 (fun k hk hk' => d1_ k hk' k (by simp [hk]) rfl)); clear O3; have O3 := O3x; clear O3x
  have k2_2_0 : w2.cell? ⟨w.heap.size, 8, none⟩ = some (.slice z2a0 z2n0 z2c0) := turn_cell T2 hz1 nb1 k1_2_0
  have k2_3_0 : w2.cell? ⟨w.heap.size, 9, none⟩ = some (.slice z3a0 z3n0 z3c0) := turn_cell T2 hz1 nb1 k1_3_0
  have hz2 : w.heap.size < w2.heap.size := by have := T2.size; (try simp at this); omega
  go_wp2_with fail
  refine (laws_markIntS_ b2 _ x.2.2.1 _ _ O2.out n2_ (by omega) (by omega) (by have := HL.out; unfold wRoad at this; omega)).mono ?_
  rintro e w3 ⟨rfl, T3, P2⟩
  have O0x := Lib.hid (Ty.own_turns O0.out T3 (fun k hk hk' => d0_ k hk k (by simp [hk']) rfl)); clear O0; have O0 := O0x; clear O0x
  have O1x := Lib.hid (Ty.own_turns O1.out T3 (fun k hk hk' => d1_ k hk k (by simp [hk']) rfl)); clear O1; have O1 := O1x; clear O1x
  have O2x := Lib.hid P2; clear P2 O2; have O2 := O2x; clear O2x
  have O3x := Lib.hid (Ty.own_turns O3.out T3 (fun k hk hk' => d2_ k hk' k (by simp [hk]) rfl)); clear O3; have O3 := O3x; clear O3x
  have k3_3_0 : w3.cell? ⟨w.heap.size, 9, none⟩ = some (.slice z3a0 z3n0 z3c0) := turn_cell T3 hz2 nb2 k2_3_0
  have hz3 : w.heap.size < w3.heap.size := by have := T3.size; (try simp at this); omega
  go_wp2_with fail
  refine (laws_markIntSS_ d2 _ x.2.2.2 _ _ O3.out n3_ (by omega) (by omega) (by have := HL.out; unfold wRoad at this; omega)).mono ?_
  rintro e w4 ⟨rfl, T4, P3⟩
  have O0x := Lib.hid (Ty.own_turns O0.out T4 (fun k hk hk' => d0_ k hk k (by simp [hk']) rfl)); clear O0; have O0 := O0x; clear O0x
  have O1x := Lib.hid (Ty.own_turns O1.out T4 (fun k hk hk' => d1_ k hk k (by simp [hk']) rfl)); clear O1; have O1 := O1x; clear O1x
  have O2x := Lib.hid (Ty.own_turns O2.out T4 (fun k hk hk' => d2_ k hk k (by simp [hk']) rfl)); clear O2; have O2 := O2x; clear O2x
  have O3x := Lib.hid P3; clear P3 O3; have O3 := O3x; clear O3x
  have hz4 : w.heap.size < w4.heap.size := by have := T4.size; (try simp at this); omega
  go_wp2_with fail
  go_ret
  exact ⟨ret_int (by rw [HC.out]; try omega), ((((((Turns.refl _ w).alloc _).trans (T1.mono (fun k hk => by simp [hk]))).trans (T2.mono (fun k hk => by simp [hk]))).trans (T3.mono (fun k hk => by simp [hk]))).trans (T4.mono (fun k hk => by simp [hk]))), ⟨b0, (b1 ++ (b2 ++ d2)), [.int .i64 x.1.1.1, .int .i64 x.1.1.2, .int .i64 x.1.2.1.1, .int .i64 x.1.2.1.2, .slice z0a4 z0n4 z0c4, .slice z0a5 z0n5 z0c5, .slice z0a6 z0n6 z0c6], [.slice z1a0 z1n0 z1c0, .slice z2a0 z2n0 z2c0, .slice z3a0 z3n0 z3c0], rfl, rfl, (mk_eq O0.out (by first | rfl | simp only [mkRoad, Int.natCast_add, Int.add_assoc])), ⟨b1, (b2 ++ d2), [.slice z1a0 z1n0 z1c0], [.slice z2a0 z2n0 z2c0, .slice z3a0 z3n0 z3c0], rfl, rfl, (mk_eq O1.out (by first | rfl | simp only [mkRoad, Int.natCast_add, Int.add_assoc])), ⟨b2, d2, [.slice z2a0 z2n0 z2c0], [.slice z3a0 z3n0 z3c0], rfl, rfl, (mk_eq O2.out (by first | rfl | simp only [mkRoad, Int.natCast_add, Int.add_assoc])), (mk_eq O3.out (by first | rfl | simp only [mkRoad, Int.natCast_add, Int.add_assoc]))⟩⟩⟩⟩
end Go.Proofs.Ytbbibfeblaocfaa
