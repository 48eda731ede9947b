/- markWall, heldWall: marks in what a value owns. -/
import Derived.Test.YteihkhniibncnaaGreatGMk
import Derived.Deep.RegionHeld3
namespace Go.Proofs.YteihkhniibncnaaGreat
open Go.RowKit
set_option maxHeartbeats 3200000 in
theorem laws_markWall_ (bs : List Nat) (cs : List Value) (x : QWall) (q : Int) (w : World) (hv : tWall.own bs w cs x) (hnd : bs.Nodup) (h0 : 0 ≤ q) (h1 : q + (cWall x : Nat) ≤ 1000000000) (hl : wWall x ≤ 1048576) :
    Calls Tryz.prog 22 #[.agg cs.toArray, .int .i64 q] w fun e w' => e = .returned (.int .i64 (q + (cWall x : Nat))) ∧ Turns bs w w' ∧ tWall.own bs w' cs (mkWall x q) := by
  obtain ⟨b0, d0, c0, e0, rfl, rfl, f0, g0⟩ := hv
  obtain ⟨b1, d1, c1, e1, rfl, rfl, f1, g1⟩ := g0
  obtain ⟨z0a1, z0n1, z0c1, z0a2, z0n2, z0c2, rfl⟩ := sh_Rat (Ty.rd_at (tRat.own_rd f0))
  obtain ⟨z1a1, z1n1, z1c1, z1a2, z1n2, z1c2, rfl⟩ := sh_Rat (Ty.rd_at (tRat.own_rd f1))
  obtain ⟨z2a1, z2n1, z2c1, z2a2, z2n2, z2c2, rfl⟩ := sh_Rat (Ty.rd_at (tRat.own_rd g1))
  have hnb_ : (b0 ++ (b1 ++ (d1))).Nodup := by simpa [List.append_assoc] using hnd
  simp only [List.nodup_append] at hnb_
  obtain ⟨n0_, ⟨n1_, n2_, d1_⟩, d0_⟩ := hnb_
  have nb0 : w.heap.size ∉ b0 := fun h => by have := tRat.own_lt f0 _ h; omega
  have O0 := Lib.hid (Ty.own_more f0 (Turns.more ((Turns.refl [] w).alloc (.cells #[.bool x.1.1.1, .slice z0a1 z0n1 z0c1, .slice z0a2 z0n2 z0c2, .bool x.2.1.1.1, .slice z1a1 z1n1 z1c1, .slice z1a2 z1n2 z1c2, .bool x.2.2.1.1, .slice z2a1 z2n1 z2c1, .slice z2a2 z2n2 z2c2] 50)))); clear f0
  have nb1 : w.heap.size ∉ b1 := fun h => by have := tRat.own_lt f1 _ h; omega
  have O1 := Lib.hid (Ty.own_more f1 (Turns.more ((Turns.refl [] w).alloc (.cells #[.bool x.1.1.1, .slice z0a1 z0n1 z0c1, .slice z0a2 z0n2 z0c2, .bool x.2.1.1.1, .slice z1a1 z1n1 z1c1, .slice z1a2 z1n2 z1c2, .bool x.2.2.1.1, .slice z2a1 z2n1 z2c1, .slice z2a2 z2n2 z2c2] 50)))); clear f1
  have nb2 : w.heap.size ∉ d1 := fun h => by have := tRat.own_lt g1 _ h; omega
  have O2 := Lib.hid (Ty.own_more g1 (Turns.more ((Turns.refl [] w).alloc (.cells #[.bool x.1.1.1, .slice z0a1 z0n1 z0c1, .slice z0a2 z0n2 z0c2, .bool x.2.1.1.1, .slice z1a1 z1n1 z1c1, .slice z1a2 z1n2 z1c2, .bool x.2.2.1.1, .slice z2a1 z2n1 z2c1, .slice z2a2 z2n2 z2c2] 50)))); clear g1
  have HL := Lib.hid hl; clear hl; have HC : Hid (cWall x = cRat x.1 + cRat x.2.1 + cRat x.2.2) := Lib.hid rfl
  have hC := HC.out; rw [hC] at h1; clear hC
  show Calls Tryz.prog 22 #[.agg #[.bool x.1.1.1, .slice z0a1 z0n1 z0c1, .slice z0a2 z0n2 z0c2, .bool x.2.1.1.1, .slice z1a1 z1n1 z1c1, .slice z1a2 z1n2 z1c2, .bool x.2.2.1.1, .slice z2a1 z2n1 z2c1, .slice z2a2 z2n2 z2c2], .int .i64 q] w _
  go_enter Tryz.func22, Tryz.ntmps22
  go_wp2_with fail
  refine (laws_markRat_ b0 _ x.1 _ _ O0.out n0_ (by omega) (by omega) (by have := HL.out; unfold wWall at this; omega)).mono ?_
  rintro e w1 ⟨rfl, T1, P0⟩
  have O0x := Lib.hid P0; clear P0 O0; have O0 := O0x; clear O0x
  have O1x := Lib.hid (Ty.own_turns O1.out T1 (fun k hk hk' => d0_ k hk' k (by simp [hk]) rfl)); clear O1; have O1 := O1x; clear O1x
  have O2x := Lib.hid (Ty.own_turns O2.out T1 (fun k hk hk' => d0_ k hk' k (by simp [hk]) rfl)); clear O2; have O2 := O2x; clear O2x
  have k1_1_0 : w1.cell? ⟨w.heap.size, 3, none⟩ = some (.bool x.2.1.1.1) := turn_cell T1 (by simp) nb0 (box_new rfl (More.refl _) 3)
  have k1_1_1 : w1.cell? ⟨w.heap.size, 4, none⟩ = some (.slice z1a1 z1n1 z1c1) := turn_cell T1 (by simp) nb0 (box_new rfl (More.refl _) 4)
  have k1_1_2 : w1.cell? ⟨w.heap.size, 5, none⟩ = some (.slice z1a2 z1n2 z1c2) := turn_cell T1 (by simp) nb0 (box_new rfl (More.refl _) 5)
  have k1_2_0 : w1.cell? ⟨w.heap.size, 6, none⟩ = some (.bool x.2.2.1.1) := turn_cell T1 (by simp) nb0 (box_new rfl (More.refl _) 6)
  have k1_2_1 : w1.cell? ⟨w.heap.size, 7, none⟩ = some (.slice z2a1 z2n1 z2c1) := turn_cell T1 (by simp) nb0 (box_new rfl (More.refl _) 7)
  have k1_2_2 : w1.cell? ⟨w.heap.size, 8, none⟩ = some (.slice z2a2 z2n2 z2c2) := turn_cell T1 (by simp) nb0 (box_new rfl (More.refl _) 8)
  have hz1 : w.heap.size < w1.heap.size := by have := T1.size; (try simp at this); omega
  go_wp2_with fail
  refine (laws_markRat_ b1 _ x.2.1 _ _ O1.out n1_ (by omega) (by omega) (by have := HL.out; unfold wWall at this; omega)).mono ?_
  rintro e w2 ⟨rfl, T2, P1⟩
  have O0x := Lib.hid (Ty.own_turns O0.out T2 (fun k hk hk' => d0_ k hk k (by simp [hk']) rfl)); clear O0; have O0 := O0x; clear O0x
  have O1x := Lib.hid P1; clear P1 O1; have O1 := O1x; clear O1x
  have O2x := Lib.hid (Ty.own_turns O2.out T2 (fun k hk hk' => d1_ k hk' k (by simp [hk]) rfl)); clear O2; have O2 := O2x; clear O2x
  have k2_2_0 : w2.cell? ⟨w.heap.size, 6, none⟩ = some (.bool x.2.2.1.1) := turn_cell T2 hz1 nb1 k1_2_0
  have k2_2_1 : w2.cell? ⟨w.heap.size, 7, none⟩ = some (.slice z2a1 z2n1 z2c1) := turn_cell T2 hz1 nb1 k1_2_1
  have k2_2_2 : w2.cell? ⟨w.heap.size, 8, none⟩ = some (.slice z2a2 z2n2 z2c2) := turn_cell T2 hz1 nb1 k1_2_2
  have hz2 : w.heap.size < w2.heap.size := by have := T2.size; (try simp at this); omega
  go_wp2_with fail
  refine (laws_markRat_ d1 _ x.2.2 _ _ O2.out n2_ (by omega) (by omega) (by have := HL.out; unfold wWall at this; omega)).mono ?_
  rintro e w3 ⟨rfl, T3, P2⟩
  have O0x := Lib.hid (Ty.own_turns O0.out T3 (fun k hk hk' => d0_ k hk k (by simp [hk']) rfl)); clear O0; have O0 := O0x; clear O0x
  have O1x := Lib.hid (Ty.own_turns O1.out T3 (fun k hk hk' => d1_ k hk k (by simp [hk']) rfl)); clear O1; have O1 := O1x; clear O1x
  have O2x := Lib.hid P2; clear P2 O2; have O2 := O2x; clear O2x
  have hz3 : w.heap.size < w3.heap.size := by have := T3.size; (try simp at this); omega
  go_wp2_with fail
  go_ret
  exact ⟨ret_int (by rw [HC.out]; try omega), (((((Turns.refl _ w).alloc _).trans (T1.mono (fun k hk => by simp [hk]))).trans (T2.mono (fun k hk => by simp [hk]))).trans (T3.mono (fun k hk => by simp [hk]))), ⟨b0, (b1 ++ d1), [.bool x.1.1.1, .slice z0a1 z0n1 z0c1, .slice z0a2 z0n2 z0c2], [.bool x.2.1.1.1, .slice z1a1 z1n1 z1c1, .slice z1a2 z1n2 z1c2, .bool x.2.2.1.1, .slice z2a1 z2n1 z2c1, .slice z2a2 z2n2 z2c2], rfl, rfl, (mk_eq O0.out (by first | rfl | simp only [mkWall, Int.natCast_add, Int.add_assoc])), ⟨b1, d1, [.bool x.2.1.1.1, .slice z1a1 z1n1 z1c1, .slice z1a2 z1n2 z1c2], [.bool x.2.2.1.1, .slice z2a1 z2n1 z2c1, .slice z2a2 z2n2 z2c2], rfl, rfl, (mk_eq O1.out (by first | rfl | simp only [mkWall, Int.natCast_add, Int.add_assoc])), (mk_eq O2.out (by first | rfl | simp only [mkWall, Int.natCast_add, Int.add_assoc]))⟩⟩⟩
end Go.Proofs.YteihkhniibncnaaGreat
