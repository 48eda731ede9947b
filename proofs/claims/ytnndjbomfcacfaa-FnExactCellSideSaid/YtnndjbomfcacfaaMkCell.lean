/- markCell, heldCell: marks in what a value owns. -/
import Derived.Test.YtnndjbomfcacfaaGMk
import Derived.Deep.RegionHeld3
namespace Go.Proofs.Ytnndjbomfcacfaa
open Go.RowKit
set_option maxHeartbeats 3200000 in
theorem laws_markCell_ (bs : List Nat) (cs : List Value) (x : QCell) (q : Int) (w : World) (hv : tCell.own bs w cs x) (hnd : bs.Nodup) (h0 : 0 ≤ q) (h1 : q + (cCell x : Nat) ≤ 1000000000) (hl : wCell x ≤ 1048576) :
    Calls Try.prog 24 #[.agg cs.toArray, .int .i64 q] w fun e w' => e = .returned (.int .i64 (q + (cCell x : Nat))) ∧ Turns bs w w' ∧ tCell.own bs w' cs (mkCell x q) := by
  obtain ⟨b0, d0, c0, e0, rfl, rfl, f0, g0⟩ := hv
  obtain ⟨b1, d1, c1, e1, rfl, rfl, f1, g1⟩ := g0
  obtain ⟨b2, d2, c2, e2, rfl, rfl, f2, g2⟩ := g1
  obtain ⟨b3, d3, c3, e3, rfl, rfl, f3, g3⟩ := g2
  obtain ⟨b4, d4, c4, e4, rfl, rfl, f4, g4⟩ := g3
  obtain ⟨z0a1, z0n1, z0c1, z0a2, z0n2, z0c2, rfl⟩ := sh_Rat (Ty.rd_at (tRat.own_rd f0))
  obtain ⟨z1a1, z1n1, z1c1, z1a2, z1n2, z1c2, rfl⟩ := sh_Rat (Ty.rd_at (tRat.own_rd f1))
  obtain ⟨z2a1, z2n1, z2c1, z2a2, z2n2, z2c2, rfl⟩ := sh_Rat (Ty.rd_at (tRat.own_rd f2))
  obtain ⟨z3a1, z3n1, z3c1, z3a2, z3n2, z3c2, rfl⟩ := sh_Rat (Ty.rd_at (tRat.own_rd f3))
  obtain ⟨z4a1, z4n1, z4c1, z4a2, z4n2, z4c2, rfl⟩ := sh_Rat (Ty.rd_at (tRat.own_rd f4))
  obtain ⟨z5a1, z5n1, z5c1, z5a2, z5n2, z5c2, rfl⟩ := sh_Rat (Ty.rd_at (tRat.own_rd g4))
  have hnb_ : (b0 ++ (b1 ++ (b2 ++ (b3 ++ (b4 ++ (d4)))))).Nodup := by simpa [List.append_assoc] using hnd
  simp only [List.nodup_append] at hnb_
  obtain ⟨n0_, ⟨n1_, ⟨n2_, ⟨n3_, ⟨n4_, n5_, d4_⟩, d3_⟩, d2_⟩, d1_⟩, d0_⟩ := hnb_
  have nb0 : w.heap.size ∉ b0 := fun h => by have := tRat.own_lt f0 _ h; omega
  have O0 := Lib.hid (Ty.own_more f0 (Turns.more ((Turns.refl [] w).alloc (.cells #[.bool x.1.1.1, .slice z0a1 z0n1 z0c1, .slice z0a2 z0n2 z0c2, .bool x.2.1.1.1, .slice z1a1 z1n1 z1c1, .slice z1a2 z1n2 z1c2, .bool x.2.2.1.1.1, .slice z2a1 z2n1 z2c1, .slice z2a2 z2n2 z2c2, .bool x.2.2.2.1.1.1, .slice z3a1 z3n1 z3c1, .slice z3a2 z3n2 z3c2, .bool x.2.2.2.2.1.1.1, .slice z4a1 z4n1 z4c1, .slice z4a2 z4n2 z4c2, .bool x.2.2.2.2.2.1.1, .slice z5a1 z5n1 z5c1, .slice z5a2 z5n2 z5c2] 59)))); clear f0
  have nb1 : w.heap.size ∉ b1 := fun h => by have := tRat.own_lt f1 _ h; omega
  have O1 := Lib.hid (Ty.own_more f1 (Turns.more ((Turns.refl [] w).alloc (.cells #[.bool x.1.1.1, .slice z0a1 z0n1 z0c1, .slice z0a2 z0n2 z0c2, .bool x.2.1.1.1, .slice z1a1 z1n1 z1c1, .slice z1a2 z1n2 z1c2, .bool x.2.2.1.1.1, .slice z2a1 z2n1 z2c1, .slice z2a2 z2n2 z2c2, .bool x.2.2.2.1.1.1, .slice z3a1 z3n1 z3c1, .slice z3a2 z3n2 z3c2, .bool x.2.2.2.2.1.1.1, .slice z4a1 z4n1 z4c1, .slice z4a2 z4n2 z4c2, .bool x.2.2.2.2.2.1.1, .slice z5a1 z5n1 z5c1, .slice z5a2 z5n2 z5c2] 59)))); clear f1
  have nb2 : w.heap.size ∉ b2 := fun h => by have := tRat.own_lt f2 _ h; omega
  have O2 := Lib.hid (Ty.own_more f2 (Turns.more ((Turns.refl [] w).alloc (.cells #[.bool x.1.1.1, .slice z0a1 z0n1 z0c1, .slice z0a2 z0n2 z0c2, .bool x.2.1.1.1, .slice z1a1 z1n1 z1c1, .slice z1a2 z1n2 z1c2, .bool x.2.2.1.1.1, .slice z2a1 z2n1 z2c1, .slice z2a2 z2n2 z2c2, .bool x.2.2.2.1.1.1, .slice z3a1 z3n1 z3c1, .slice z3a2 z3n2 z3c2, .bool x.2.2.2.2.1.1.1, .slice z4a1 z4n1 z4c1, .slice z4a2 z4n2 z4c2, .bool x.2.2.2.2.2.1.1, .slice z5a1 z5n1 z5c1, .slice z5a2 z5n2 z5c2] 59)))); clear f2
  have nb3 : w.heap.size ∉ b3 := fun h => by have := tRat.own_lt f3 _ h; omega
  have O3 := Lib.hid (Ty.own_more f3 (Turns.more ((Turns.refl [] w).alloc (.cells #[.bool x.1.1.1, .slice z0a1 z0n1 z0c1, .slice z0a2 z0n2 z0c2, .bool x.2.1.1.1, .slice z1a1 z1n1 z1c1, .slice z1a2 z1n2 z1c2, .bool x.2.2.1.1.1, .slice z2a1 z2n1 z2c1, .slice z2a2 z2n2 z2c2, .bool x.2.2.2.1.1.1, .slice z3a1 z3n1 z3c1, .slice z3a2 z3n2 z3c2, .bool x.2.2.2.2.1.1.1, .slice z4a1 z4n1 z4c1, .slice z4a2 z4n2 z4c2, .bool x.2.2.2.2.2.1.1, .slice z5a1 z5n1 z5c1, .slice z5a2 z5n2 z5c2] 59)))); clear f3
  have nb4 : w.heap.size ∉ b4 := fun h => by have := tRat.own_lt f4 _ h; omega
  have O4 := Lib.hid (Ty.own_more f4 (Turns.more ((Turns.refl [] w).alloc (.cells #[.bool x.1.1.1, .slice z0a1 z0n1 z0c1, .slice z0a2 z0n2 z0c2, .bool x.2.1.1.1, .slice z1a1 z1n1 z1c1, .slice z1a2 z1n2 z1c2, .bool x.2.2.1.1.1, .slice z2a1 z2n1 z2c1, .slice z2a2 z2n2 z2c2, .bool x.2.2.2.1.1.1, .slice z3a1 z3n1 z3c1, .slice z3a2 z3n2 z3c2, .bool x.2.2.2.2.1.1.1, .slice z4a1 z4n1 z4c1, .slice z4a2 z4n2 z4c2, .bool x.2.2.2.2.2.1.1, .slice z5a1 z5n1 z5c1, .slice z5a2 z5n2 z5c2] 59)))); clear f4
  have nb5 : w.heap.size ∉ d4 := fun h => by have := tRat.own_lt g4 _ h; omega
  have O5 := Lib.hid (Ty.own_more g4 (Turns.more ((Turns.refl [] w).alloc (.cells #[.bool x.1.1.1, .slice z0a1 z0n1 z0c1, .slice z0a2 z0n2 z0c2, .bool x.2.1.1.1, .slice z1a1 z1n1 z1c1, .slice z1a2 z1n2 z1c2, .bool x.2.2.1.1.1, .slice z2a1 z2n1 z2c1, .slice z2a2 z2n2 z2c2, .bool x.2.2.2.1.1.1, .slice z3a1 z3n1 z3c1, .slice z3a2 z3n2 z3c2, .bool x.2.2.2.2.1.1.1, .slice z4a1 z4n1 z4c1, .slice z4a2 z4n2 z4c2, .bool x.2.2.2.2.2.1.1, .slice z5a1 z5n1 z5c1, .slice z5a2 z5n2 z5c2] 59)))); clear g4
  have HL := Lib.hid hl; clear hl; have HC : Hid (cCell x = cRat x.1 + cRat x.2.1 + cRat x.2.2.1 + cRat x.2.2.2.1 + cRat x.2.2.2.2.1 + cRat x.2.2.2.2.2) := Lib.hid rfl
  have hC := HC.out; rw [hC] at h1; clear hC
  show Calls Try.prog 24 #[.agg #[.bool x.1.1.1, .slice z0a1 z0n1 z0c1, .slice z0a2 z0n2 z0c2, .bool x.2.1.1.1, .slice z1a1 z1n1 z1c1, .slice z1a2 z1n2 z1c2, .bool x.2.2.1.1.1, .slice z2a1 z2n1 z2c1, .slice z2a2 z2n2 z2c2, .bool x.2.2.2.1.1.1, .slice z3a1 z3n1 z3c1, .slice z3a2 z3n2 z3c2, .bool x.2.2.2.2.1.1.1, .slice z4a1 z4n1 z4c1, .slice z4a2 z4n2 z4c2, .bool x.2.2.2.2.2.1.1, .slice z5a1 z5n1 z5c1, .slice z5a2 z5n2 z5c2], .int .i64 q] w _
  go_enter Try.func24, Try.ntmps24
  go_wp2_with fail
  refine (laws_markRat_ b0 _ x.1 _ _ O0.out n0_ (by omega) (by omega) (by have := HL.out; unfold wCell at this; omega)).mono ?_
  rintro e w1 ⟨rfl, T1, P0⟩
  have O0x := Lib.hid P0; clear P0 O0; have O0 := O0x; clear O0x
  have O1x := Lib.hid (Ty.own_turns O1.out T1 (fun k hk hk' => d0_ k hk' k (by simp [hk]) rfl)); clear O1; have O1 := O1x; clear O1x
  have O2x := Lib.hid (Ty.own_turns O2.out T1 (fun k hk hk' => d0_ k hk' k (by simp [hk]) rfl)); clear O2; have O2 := O2x; clear O2x
  have O3x := Lib.hid (Ty.own_turns O3.out T1 (fun k hk hk' => d0_ k hk' k (by simp [hk]) rfl)); clear O3; have O3 := O3x; clear O3x
  have O4x := Lib.hid (Ty.own_turns O4.out T1 (fun k hk hk' => d0_ k hk' k (by simp [hk]) rfl)); clear O4; have O4 := O4x; clear O4x
  have O5x := Lib.hid (Ty.own_turns O5.out T1 (fun k hk hk' => d0_ k hk' k (by simp [hk]) rfl)); clear O5; have O5 := O5x; clear O5x
  have k1_1_0 : w1.cell? ⟨w.heap.size, 3, none⟩ = some (.bool x.2.1.1.1) := turn_cell T1 (by simp) nb0 (box_new rfl (More.refl _) 3)
  have k1_1_1 : w1.cell? ⟨w.heap.size, 4, none⟩ = some (.slice z1a1 z1n1 z1c1) := turn_cell T1 (by simp) nb0 (box_new rfl (More.refl _) 4)
  have k1_1_2 : w1.cell? ⟨w.heap.size, 5, none⟩ = some (.slice z1a2 z1n2 z1c2) := turn_cell T1 (by simp) nb0 (box_new rfl (More.refl _) 5)
  have k1_2_0 : w1.cell? ⟨w.heap.size, 6, none⟩ = some (.bool x.2.2.1.1.1) := turn_cell T1 (by simp) nb0 (box_new rfl (More.refl _) 6)
  have k1_2_1 : w1.cell? ⟨w.heap.size, 7, none⟩ = some (.slice z2a1 z2n1 z2c1) := turn_cell T1 (by simp) nb0 (box_new rfl (More.refl _) 7)
  have k1_2_2 : w1.cell? ⟨w.heap.size, 8, none⟩ = some (.slice z2a2 z2n2 z2c2) := turn_cell T1 (by simp) nb0 (box_new rfl (More.refl _) 8)
  have k1_3_0 : w1.cell? ⟨w.heap.size, 9, none⟩ = some (.bool x.2.2.2.1.1.1) := turn_cell T1 (by simp) nb0 (box_new rfl (More.refl _) 9)
  have k1_3_1 : w1.cell? ⟨w.heap.size, 10, none⟩ = some (.slice z3a1 z3n1 z3c1) := turn_cell T1 (by simp) nb0 (box_new rfl (More.refl _) 10)
  have k1_3_2 : w1.cell? ⟨w.heap.size, 11, none⟩ = some (.slice z3a2 z3n2 z3c2) := turn_cell T1 (by simp) nb0 (box_new rfl (More.refl _) 11)
  have k1_4_0 : w1.cell? ⟨w.heap.size, 12, none⟩ = some (.bool x.2.2.2.2.1.1.1) := turn_cell T1 (by simp) nb0 (box_new rfl (More.refl _) 12)
  have k1_4_1 : w1.cell? ⟨w.heap.size, 13, none⟩ = some (.slice z4a1 z4n1 z4c1) := turn_cell T1 (by simp) nb0 (box_new rfl (More.refl _) 13)
  have k1_4_2 : w1.cell? ⟨w.heap.size, 14, none⟩ = some (.slice z4a2 z4n2 z4c2) := turn_cell T1 (by simp) nb0 (box_new rfl (More.refl _) 14)
  have k1_5_0 : w1.cell? ⟨w.heap.size, 15, none⟩ = some (.bool x.2.2.2.2.2.1.1) := turn_cell T1 (by simp) nb0 (box_new rfl (More.refl _) 15)
  have k1_5_1 : w1.cell? ⟨w.heap.size, 16, none⟩ = some (.slice z5a1 z5n1 z5c1) := turn_cell T1 (by simp) nb0 (box_new rfl (More.refl _) 16)
  have k1_5_2 : w1.cell? ⟨w.heap.size, 17, none⟩ = some (.slice z5a2 z5n2 z5c2) := turn_cell T1 (by simp) nb0 (box_new rfl (More.refl _) 17)
  have hz1 : w.heap.size < w1.heap.size := by have := T1.size; (try simp at this); omega
  go_wp2_with fail
  refine (laws_markRat_ b1 _ x.2.1 _ _ O1.out n1_ (by omega) (by omega) (by have := HL.out; unfold wCell at this; omega)).mono ?_
  rintro e w2 ⟨rfl, T2, P1⟩
  have O0x := Lib.hid (Ty.own_turns O0.out T2 (fun k hk hk' => d0_ k hk k (by simp [hk']) rfl)); clear O0; have O0 := O0x; clear O0x
  have O1x := Lib.hid P1; clear P1 O1; have O1 := O1x; clear O1x
  have O2x := Lib.hid (Ty.own_turns O2.out T2 (fun k hk hk' => d1_ k hk' k (by simp [hk]) rfl)); clear O2; have O2 := O2x; clear O2x
  have O3x := Lib.hid (Ty.own_turns O3.out T2 (fun k hk hk' => d1_ k hk' k (by simp [hk]) rfl)); clear O3; have O3 := O3x; clear O3x
  have O4x := Lib.hid (Ty.own_turns O4.out T2 (fun k hk hk' => d1_ k hk' k (by simp [hk]) rfl)); clear O4; have O4 := O4x; clear O4x
  have O5x := Lib.hid (Ty.own_turns O5.out T2 (fun k hk hk' => d1_ k hk' k (by simp [hk]) rfl)); clear O5; have O5 := O5x; clear O5x
  have k2_2_0 : w2.cell? ⟨w.heap.size, 6, none⟩ = some (.bool x.2.2.1.1.1) := turn_cell T2 hz1 nb1 k1_2_0
  have k2_2_1 : w2.cell? ⟨w.heap.size, 7, none⟩ = some (.slice z2a1 z2n1 z2c1) := turn_cell T2 hz1 nb1 k1_2_1
  have k2_2_2 : w2.cell? ⟨w.heap.size, 8, none⟩ = some (.slice z2a2 z2n2 z2c2) := turn_cell T2 hz1 nb1 k1_2_2
  have k2_3_0 : w2.cell? ⟨w.heap.size, 9, none⟩ = some (.bool x.2.2.2.1.1.1) := turn_cell T2 hz1 nb1 k1_3_0
  have k2_3_1 : w2.cell? ⟨w.heap.size, 10, none⟩ = some (.slice z3a1 z3n1 z3c1) := turn_cell T2 hz1 nb1 k1_3_1
  have k2_3_2 : w2.cell? ⟨w.heap.size, 11, none⟩ = some (.slice z3a2 z3n2 z3c2) := turn_cell T2 hz1 nb1 k1_3_2
  have k2_4_0 : w2.cell? ⟨w.heap.size, 12, none⟩ = some (.bool x.2.2.2.2.1.1.1) := turn_cell T2 hz1 nb1 k1_4_0
  have k2_4_1 : w2.cell? ⟨w.heap.size, 13, none⟩ = some (.slice z4a1 z4n1 z4c1) := turn_cell T2 hz1 nb1 k1_4_1
  have k2_4_2 : w2.cell? ⟨w.heap.size, 14, none⟩ = some (.slice z4a2 z4n2 z4c2) := turn_cell T2 hz1 nb1 k1_4_2
  have k2_5_0 : w2.cell? ⟨w.heap.size, 15, none⟩ = some (.bool x.2.2.2.2.2.1.1) := turn_cell T2 hz1 nb1 k1_5_0
  have k2_5_1 : w2.cell? ⟨w.heap.size, 16, none⟩ = some (.slice z5a1 z5n1 z5c1) := turn_cell T2 hz1 nb1 k1_5_1
  have k2_5_2 : w2.cell? ⟨w.heap.size, 17, none⟩ = some (.slice z5a2 z5n2 z5c2) := turn_cell T2 hz1 nb1 k1_5_2
  have hz2 : w.heap.size < w2.heap.size := by have := T2.size; (try simp at this); omega
  go_wp2_with fail
  refine (laws_markRat_ b2 _ x.2.2.1 _ _ O2.out n2_ (by omega) (by omega) (by have := HL.out; unfold wCell at this; omega)).mono ?_
  rintro e w3 ⟨rfl, T3, P2⟩
  have O0x := Lib.hid (Ty.own_turns O0.out T3 (fun k hk hk' => d0_ k hk k (by simp [hk']) rfl)); clear O0; have O0 := O0x; clear O0x
  have O1x := Lib.hid (Ty.own_turns O1.out T3 (fun k hk hk' => d1_ k hk k (by simp [hk']) rfl)); clear O1; have O1 := O1x; clear O1x
  have O2x := Lib.hid P2; clear P2 O2; have O2 := O2x; clear O2x
  have O3x := Lib.hid (Ty.own_turns O3.out T3 (fun k hk hk' => d2_ k hk' k (by simp [hk]) rfl)); clear O3; have O3 := O3x; clear O3x
  have O4x := Lib.hid (Ty.own_turns O4.out T3 (fun k hk hk' => d2_ k hk' k (by simp [hk]) rfl)); clear O4; have O4 := O4x; clear O4x
  have O5x := Lib.hid (Ty.own_turns O5.out T3 (fun k hk hk' => d2_ k hk' k (by simp [hk]) rfl)); clear O5; have O5 := O5x; clear O5x
  have k3_3_0 : w3.cell? ⟨w.heap.size, 9, none⟩ = some (.bool x.2.2.2.1.1.1) := turn_cell T3 hz2 nb2 k2_3_0
  have k3_3_1 : w3.cell? ⟨w.heap.size, 10, none⟩ = some (.slice z3a1 z3n1 z3c1) := turn_cell T3 hz2 nb2 k2_3_1
  have k3_3_2 : w3.cell? ⟨w.heap.size, 11, none⟩ = some (.slice z3a2 z3n2 z3c2) := turn_cell T3 hz2 nb2 k2_3_2
  have k3_4_0 : w3.cell? ⟨w.heap.size, 12, none⟩ = some (.bool x.2.2.2.2.1.1.1) := turn_cell T3 hz2 nb2 k2_4_0
  have k3_4_1 : w3.cell? ⟨w.heap.size, 13, none⟩ = some (.slice z4a1 z4n1 z4c1) := turn_cell T3 hz2 nb2 k2_4_1
  have k3_4_2 : w3.cell? ⟨w.heap.size, 14, none⟩ = some (.slice z4a2 z4n2 z4c2) := turn_cell T3 hz2 nb2 k2_4_2
  have k3_5_0 : w3.cell? ⟨w.heap.size, 15, none⟩ = some (.bool x.2.2.2.2.2.1.1) := turn_cell T3 hz2 nb2 k2_5_0
  have k3_5_1 : w3.cell? ⟨w.heap.size, 16, none⟩ = some (.slice z5a1 z5n1 z5c1) := turn_cell T3 hz2 nb2 k2_5_1
  have k3_5_2 : w3.cell? ⟨w.heap.size, 17, none⟩ = some (.slice z5a2 z5n2 z5c2) := turn_cell T3 hz2 nb2 k2_5_2
  have hz3 : w.heap.size < w3.heap.size := by have := T3.size; (try simp at this); omega
  go_wp2_with fail
  refine (laws_markRat_ b3 _ x.2.2.2.1 _ _ O3.out n3_ (by omega) (by omega) (by have := HL.out; unfold wCell at this; omega)).mono ?_
  rintro e w4 ⟨rfl, T4, P3⟩
  have O0x := Lib.hid (Ty.own_turns O0.out T4 (fun k hk hk' => d0_ k hk k (by simp [hk']) rfl)); clear O0; have O0 := O0x; clear O0x
  have O1x := Lib.hid (Ty.own_turns O1.out T4 (fun k hk hk' => d1_ k hk k (by simp [hk']) rfl)); clear O1; have O1 := O1x; clear O1x
  have O2x := Lib.hid (Ty.own_turns O2.out T4 (fun k hk hk' => d2_ k hk k (by simp [hk']) rfl)); clear O2; have O2 := O2x; clear O2x
  have O3x := Lib.hid P3; clear P3 O3; have O3 := O3x; clear O3x
  have O4x := Lib.hid (Ty.own_turns O4.out T4 (fun k hk hk' => d3_ k hk' k (by simp [hk]) rfl)); clear O4; have O4 := O4x; clear O4x
  have O5x := Lib.hid (Ty.own_turns O5.out T4 (fun k hk hk' => d3_ k hk' k (by simp [hk]) rfl)); clear O5; have O5 := O5x; clear O5x
  have k4_4_0 : w4.cell? ⟨w.heap.size, 12, none⟩ = some (.bool x.2.2.2.2.1.1.1) := turn_cell T4 hz3 nb3 k3_4_0
  have k4_4_1 : w4.cell? ⟨w.heap.size, 13, none⟩ = some (.slice z4a1 z4n1 z4c1) := turn_cell T4 hz3 nb3 k3_4_1
  have k4_4_2 : w4.cell? ⟨w.heap.size, 14, none⟩ = some (.slice z4a2 z4n2 z4c2) := turn_cell T4 hz3 nb3 k3_4_2
  have k4_5_0 : w4.cell? ⟨w.heap.size, 15, none⟩ = some (.bool x.2.2.2.2.2.1.1) := turn_cell T4 hz3 nb3 k3_5_0
  have k4_5_1 : w4.cell? ⟨w.heap.size, 16, none⟩ = some (.slice z5a1 z5n1 z5c1) := turn_cell T4 hz3 nb3 k3_5_1
  have k4_5_2 : w4.cell? ⟨w.heap.size, 17, none⟩ = some (.slice z5a2 z5n2 z5c2) := turn_cell T4 hz3 nb3 k3_5_2
  have hz4 : w.heap.size < w4.heap.size := by have := T4.size; (try simp at this); omega
  go_wp2_with fail
  refine (laws_markRat_ b4 _ x.2.2.2.2.1 _ _ O4.out n4_ (by omega) (by omega) (by have := HL.out; unfold wCell at this; omega)).mono ?_
  rintro e w5 ⟨rfl, T5, P4⟩
  have O0x := Lib.hid (Ty.own_turns O0.out T5 (fun k hk hk' => d0_ k hk k (by simp [hk']) rfl)); clear O0; have O0 := O0x; clear O0x
  have O1x := Lib.hid (Ty.own_turns O1.out T5 (fun k hk hk' => d1_ k hk k (by simp [hk']) rfl)); clear O1; have O1 := O1x; clear O1x
  have O2x := Lib.hid (Ty.own_turns O2.out T5 (fun k hk hk' => d2_ k hk k (by simp [hk']) rfl)); clear O2; have O2 := O2x; clear O2x
  have O3x := Lib.hid (Ty.own_turns O3.out T5 (fun k hk hk' => d3_ k hk k (by simp [hk']) rfl)); clear O3; have O3 := O3x; clear O3x
  have O4x := Lib.hid P4; clear P4 O4; have O4 := O4x; clear O4x
  have O5x := Lib.hid (Ty.own_turns O5.out T5 (fun k hk hk' => d4_ k hk' k (by simp [hk]) rfl)); clear O5; have O5 := O5x; clear O5x
  have k5_5_0 : w5.cell? ⟨w.heap.size, 15, none⟩ = some (.bool x.2.2.2.2.2.1.1) := turn_cell T5 hz4 nb4 k4_5_0
  have k5_5_1 : w5.cell? ⟨w.heap.size, 16, none⟩ = some (.slice z5a1 z5n1 z5c1) := turn_cell T5 hz4 nb4 k4_5_1
  have k5_5_2 : w5.cell? ⟨w.heap.size, 17, none⟩ = some (.slice z5a2 z5n2 z5c2) := turn_cell T5 hz4 nb4 k4_5_2
  have hz5 : w.heap.size < w5.heap.size := by have := T5.size; (try simp at this); omega
  go_wp2_with fail
  refine (laws_markRat_ d4 _ x.2.2.2.2.2 _ _ O5.out n5_ (by omega) (by omega) (by have := HL.out; unfold wCell at this; omega)).mono ?_
  rintro e w6 ⟨rfl, T6, P5⟩
  have O0x := Lib.hid (Ty.own_turns O0.out T6 (fun k hk hk' => d0_ k hk k (by simp [hk']) rfl)); clear O0; have O0 := O0x; clear O0x
  have O1x := Lib.hid (Ty.own_turns O1.out T6 (fun k hk hk' => d1_ k hk k (by simp [hk']) rfl)); clear O1; have O1 := O1x; clear O1x
  have O2x := Lib.hid (Ty.own_turns O2.out T6 (fun k hk hk' => d2_ k hk k (by simp [hk']) rfl)); clear O2; have O2 := O2x; clear O2x
  have O3x := Lib.hid (Ty.own_turns O3.out T6 (fun k hk hk' => d3_ k hk k (by simp [hk']) rfl)); clear O3; have O3 := O3x; clear O3x
  have O4x := Lib.hid (Ty.own_turns O4.out T6 (fun k hk hk' => d4_ k hk k (by simp [hk']) rfl)); clear O4; have O4 := O4x; clear O4x
  have O5x := Lib.hid P5; clear P5 O5; have O5 := O5x; clear O5x
  have hz6 : w.heap.size < w6.heap.size := by have := T6.size; (try simp at this); omega
  go_wp2_with fail
  go_ret
  exact ⟨ret_int (by rw [HC.out]; try omega), ((((((((Turns.refl _ w).alloc _).trans (T1.mono (fun k hk => by simp [hk]))).trans (T2.mono (fun k hk => by simp [hk]))).trans (T3.mono (fun k hk => by simp [hk]))).trans (T4.mono (fun k hk => by simp [hk]))).trans (T5.mono (fun k hk => by simp [hk]))).trans (T6.mono (fun k hk => by simp [hk]))), ⟨b0, (b1 ++ (b2 ++ (b3 ++ (b4 ++ d4)))), [.bool x.1.1.1, .slice z0a1 z0n1 z0c1, .slice z0a2 z0n2 z0c2], [.bool x.2.1.1.1, .slice z1a1 z1n1 z1c1, .slice z1a2 z1n2 z1c2, .bool x.2.2.1.1.1, .slice z2a1 z2n1 z2c1, .slice z2a2 z2n2 z2c2, .bool x.2.2.2.1.1.1, .slice z3a1 z3n1 z3c1, .slice z3a2 z3n2 z3c2, .bool x.2.2.2.2.1.1.1, .slice z4a1 z4n1 z4c1, .slice z4a2 z4n2 z4c2, .bool x.2.2.2.2.2.1.1, .slice z5a1 z5n1 z5c1, .slice z5a2 z5n2 z5c2], rfl, rfl, (mk_eq O0.out (by first | rfl | simp only [mkCell, Int.natCast_add, Int.add_assoc])), ⟨b1, (b2 ++ (b3 ++ (b4 ++ d4))), [.bool x.2.1.1.1, .slice z1a1 z1n1 z1c1, .slice z1a2 z1n2 z1c2], [.bool x.2.2.1.1.1, .slice z2a1 z2n1 z2c1, .slice z2a2 z2n2 z2c2, .bool x.2.2.2.1.1.1, .slice z3a1 z3n1 z3c1, .slice z3a2 z3n2 z3c2, .bool x.2.2.2.2.1.1.1, .slice z4a1 z4n1 z4c1, .slice z4a2 z4n2 z4c2, .bool x.2.2.2.2.2.1.1, .slice z5a1 z5n1 z5c1, .slice z5a2 z5n2 z5c2], rfl, rfl, (mk_eq O1.out (by first | rfl | simp only [mkCell, Int.natCast_add, Int.add_assoc])), ⟨b2, (b3 ++ (b4 ++ d4)), [.bool x.2.2.1.1.1, .slice z2a1 z2n1 z2c1, .slice z2a2 z2n2 z2c2], [.bool x.2.2.2.1.1.1, .slice z3a1 z3n1 z3c1, .slice z3a2 z3n2 z3c2, .bool x.2.2.2.2.1.1.1, .slice z4a1 z4n1 z4c1, .slice z4a2 z4n2 z4c2, .bool x.2.2.2.2.2.1.1, .slice z5a1 z5n1 z5c1, .slice z5a2 z5n2 z5c2], rfl, rfl, (mk_eq O2.out (by first | rfl | simp only [mkCell, Int.natCast_add, Int.add_assoc])), ⟨b3, (b4 ++ d4), [.bool x.2.2.2.1.1.1, .slice z3a1 z3n1 z3c1, .slice z3a2 z3n2 z3c2], [.bool x.2.2.2.2.1.1.1, .slice z4a1 z4n1 z4c1, .slice z4a2 z4n2 z4c2, .bool x.2.2.2.2.2.1.1, .slice z5a1 z5n1 z5c1, .slice z5a2 z5n2 z5c2], rfl, rfl, (mk_eq O3.out (by first | rfl | simp only [mkCell, Int.natCast_add, Int.add_assoc])), ⟨b4, d4, [.bool x.2.2.2.2.1.1.1, .slice z4a1 z4n1 z4c1, .slice z4a2 z4n2 z4c2], [.bool x.2.2.2.2.2.1.1, .slice z5a1 z5n1 z5c1, .slice z5a2 z5n2 z5c2], rfl, rfl, (mk_eq O4.out (by first | rfl | simp only [mkCell, Int.natCast_add, Int.add_assoc])), (mk_eq O5.out (by first | rfl | simp only [mkCell, Int.natCast_add, Int.add_assoc]))⟩⟩⟩⟩⟩⟩
end Go.Proofs.Ytnndjbomfcacfaa
