/- markPoint, heldPoint: marks in what a value owns. -/
import Derived.Test.YtnbefpfijaimjaaGreatDoorGMk
import Derived.Deep.RegionHeld3
namespace Go.Proofs.YtnbefpfijaimjaaGreatDoor
open Go.RowKit
set_option maxHeartbeats 3200000 in
theorem laws_markPoint_ (bs : List Nat) (cs : List Value) (x : QP) (q : Int) (w : World) (hv : tPoint.own bs w cs x) (hnd : bs.Nodup) (h0 : 0 ≤ q) (h1 : q + (cPoint x : Nat) ≤ 1000000000) (hl : wPoint x ≤ 1048576) :
    Calls Tryz.prog 8 #[.agg cs.toArray, .int .i64 q] w fun e w' => e = .returned (.int .i64 (q + (cPoint x : Nat))) ∧ Turns bs w w' ∧ tPoint.own bs w' cs (mkPoint x q) := by
  obtain ⟨b0, d0, c0, e0, rfl, rfl, f0, g0⟩ := hv
  obtain ⟨z0a1, z0n1, z0c1, z0a2, z0n2, z0c2, rfl⟩ := sh_Rat (Ty.rd_at (tRat.own_rd f0))
  obtain ⟨z1a1, z1n1, z1c1, z1a2, z1n2, z1c2, rfl⟩ := sh_Rat (Ty.rd_at (tRat.own_rd g0))
  have hnb_ : (b0 ++ (d0)).Nodup := by simpa [List.append_assoc] using hnd
  simp only [List.nodup_append] at hnb_
  obtain ⟨n0_, n1_, d0_⟩ := hnb_
  have nb0 : w.heap.size ∉ b0 := fun h => by have := tRat.own_lt f0 _ h; omega
  have O0 := Lib.hid (Ty.own_more f0 (Turns.more ((Turns.refl [] w).alloc (.cells #[.bool x.1.1.1, .slice z0a1 z0n1 z0c1, .slice z0a2 z0n2 z0c2, .bool x.2.1.1, .slice z1a1 z1n1 z1c1, .slice z1a2 z1n2 z1c2] 28)))); clear f0
  have nb1 : w.heap.size ∉ d0 := fun h => by have := tRat.own_lt g0 _ h; omega
  have O1 := Lib.hid (Ty.own_more g0 (Turns.more ((Turns.refl [] w).alloc (.cells #[.bool x.1.1.1, .slice z0a1 z0n1 z0c1, .slice z0a2 z0n2 z0c2, .bool x.2.1.1, .slice z1a1 z1n1 z1c1, .slice z1a2 z1n2 z1c2] 28)))); clear g0
  have HL := Lib.hid hl; clear hl; have HC : Hid (cPoint x = cRat x.1 + cRat x.2) := Lib.hid rfl
  have hC := HC.out; rw [hC] at h1; clear hC
  show Calls Tryz.prog 8 #[.agg #[.bool x.1.1.1, .slice z0a1 z0n1 z0c1, .slice z0a2 z0n2 z0c2, .bool x.2.1.1, .slice z1a1 z1n1 z1c1, .slice z1a2 z1n2 z1c2], .int .i64 q] w _
  go_enter Tryz.func8, Tryz.ntmps8
  go_wp2_with fail
  refine (laws_markRat_ b0 _ x.1 _ _ O0.out n0_ (by omega) (by omega) (by have := HL.out; unfold wPoint at this; omega)).mono ?_
  rintro e w1 ⟨rfl, T1, P0⟩
  have O0x := Lib.hid P0; clear P0 O0; have O0 := O0x; clear O0x
  have O1x := Lib.hid (Ty.own_turns O1.out T1 (fun k hk hk' => d0_ k hk' k (by simp [hk]) rfl)); clear O1; have O1 := O1x; clear O1x
  have k1_1_0 : w1.cell? ⟨w.heap.size, 3, none⟩ = some (.bool x.2.1.1) := turn_cell T1 (by simp) nb0 (box_new rfl (More.refl _) 3)
  have k1_1_1 : w1.cell? ⟨w.heap.size, 4, none⟩ = some (.slice z1a1 z1n1 z1c1) := turn_cell T1 (by simp) nb0 (box_new rfl (More.refl _) 4)
  have k1_1_2 : w1.cell? ⟨w.heap.size, 5, none⟩ = some (.slice z1a2 z1n2 z1c2) := turn_cell T1 (by simp) nb0 (box_new rfl (More.refl _) 5)
  have hz1 : w.heap.size < w1.heap.size := by have := T1.size; (try simp at this); omega
  go_wp2_with fail
  refine (laws_markRat_ d0 _ x.2 _ _ O1.out n1_ (by omega) (by omega) (by have := HL.out; unfold wPoint at this; omega)).mono ?_
  rintro e w2 ⟨rfl, T2, P1⟩
  have O0x := Lib.hid (Ty.own_turns O0.out T2 (fun k hk hk' => d0_ k hk k (by simp [hk']) rfl)); clear O0; have O0 := O0x; clear O0x
  have O1x := Lib.hid P1; clear P1 O1; have O1 := O1x; clear O1x
  have hz2 : w.heap.size < w2.heap.size := by have := T2.size; (try simp at this); omega
  go_wp2_with fail
  go_ret
  exact ⟨ret_int (by rw [HC.out]; try omega), ((((Turns.refl _ w).alloc _).trans (T1.mono (fun k hk => by simp [hk]))).trans (T2.mono (fun k hk => by simp [hk]))), ⟨b0, d0, [.bool x.1.1.1, .slice z0a1 z0n1 z0c1, .slice z0a2 z0n2 z0c2], [.bool x.2.1.1, .slice z1a1 z1n1 z1c1, .slice z1a2 z1n2 z1c2], rfl, rfl, (mk_eq O0.out (by first | rfl | simp only [mkPoint, Int.natCast_add, Int.add_assoc])), (mk_eq O1.out (by first | rfl | simp only [mkPoint, Int.natCast_add, Int.add_assoc]))⟩⟩
set_option maxHeartbeats 3200000 in
theorem laws_heldPoint_ (cs : List Value) (x : QP) (q : Int) (w : World) (hv : tPoint.at w cs (mkPoint x q)) (h0 : 0 ≤ q) (h1 : q + (cPoint x : Nat) ≤ 1000000000) (hl : wPoint x ≤ 1048576) :
    Calls Tryz.prog 9 #[.agg cs.toArray, .int .i64 q] w fun e w' => e = .returned (.int .i64 (q + (cPoint x : Nat))) ∧ More w w' := by
  obtain ⟨k0, d0, rfl, f0, e0⟩ := at_prod hv
  have f1 := e0; clear e0
  obtain ⟨z0a1, z0n1, z0c1, z0a2, z0n2, z0c2, rfl⟩ := sh_Rat f0
  have F0 := Lib.hid (mk_at (y := mkRat x.1 (q)) f0 (by first | rfl | simp only [mkPoint, Int.natCast_add, Int.add_assoc])); clear f0
  obtain ⟨z1a1, z1n1, z1c1, z1a2, z1n2, z1c2, rfl⟩ := sh_Rat f1
  have F1 := Lib.hid (mk_at (y := mkRat x.2 (q + ((cRat x.1 : Nat) : Int))) f1 (by first | rfl | simp only [mkPoint, Int.natCast_add, Int.add_assoc])); clear f1
  have HL := Lib.hid hl; clear hl; have HC : Hid (cPoint x = cRat x.1 + cRat x.2) := Lib.hid rfl
  have hC := HC.out; rw [hC] at h1; clear hC
  show Calls Tryz.prog 9 #[.agg #[.bool x.1.1.1, .slice z0a1 z0n1 z0c1, .slice z0a2 z0n2 z0c2, .bool x.2.1.1, .slice z1a1 z1n1 z1c1, .slice z1a2 z1n2 z1c2], .int .i64 q] w _
  have HX : More (w.alloc (.cells #[.bool x.1.1.1, .slice z0a1 z0n1 z0c1, .slice z0a2 z0n2 z0c2, .bool x.2.1.1, .slice z1a1 z1n1 z1c1, .slice z1a2 z1n2 z1c2] 28)) (w.alloc (.cells #[.bool x.1.1.1, .slice z0a1 z0n1 z0c1, .slice z0a2 z0n2 z0c2, .bool x.2.1.1, .slice z1a1 z1n1 z1c1, .slice z1a2 z1n2 z1c2] 28)) := More.refl _
  have HB : ∀ w', More (w.alloc (.cells #[.bool x.1.1.1, .slice z0a1 z0n1 z0c1, .slice z0a2 z0n2 z0c2, .bool x.2.1.1, .slice z1a1 z1n1 z1c1, .slice z1a2 z1n2 z1c2] 28)) w' → w'.cell? ⟨w.heap.size, 0, none⟩ = some (.bool x.1.1.1) ∧ w'.cell? ⟨w.heap.size, 1, none⟩ = some (.slice z0a1 z0n1 z0c1) ∧ w'.cell? ⟨w.heap.size, 2, none⟩ = some (.slice z0a2 z0n2 z0c2) ∧ w'.cell? ⟨w.heap.size, 3, none⟩ = some (.bool x.2.1.1) ∧ w'.cell? ⟨w.heap.size, 4, none⟩ = some (.slice z1a1 z1n1 z1c1) ∧ w'.cell? ⟨w.heap.size, 5, none⟩ = some (.slice z1a2 z1n2 z1c2) ∧ (∀ j, w'.frozen? ⟨w.heap.size, j, none⟩ = false) := fun w' h => ⟨box_new (by simp) h 0, box_new (by simp) h 1, box_new (by simp) h 2, box_new (by simp) h 3, box_new (by simp) h 4, box_new (by simp) h 5, fun j => box_free (by simp) h j⟩
  go_enter Tryz.func9, Tryz.ntmps9
  go_wp2_with fail
  refine (laws_heldRat_ _ x.1 _ _ (Ty.at_more F0.out mC) (by omega) (by omega) (by have := HL.out; unfold wPoint at this; omega)).mono ?_
  rintro e w1 ⟨rfl, hb1⟩; have HX : More (w.alloc (.cells #[.bool x.1.1.1, .slice z0a1 z0n1 z0c1, .slice z0a2 z0n2 z0c2, .bool x.2.1.1, .slice z1a1 z1n1 z1c1, .slice z1a2 z1n2 z1c2] 28)) _ := More.trans (by assumption) hb1; have HBw := HB _ HX
  have g0 : ¬ (q + ((cRat x.1 : Nat) : Int) < 0) := by omega
  go_wp2_with fail
  refine (laws_heldRat_ _ x.2 _ _ (Ty.at_more F1.out mC) (by omega) (by omega) (by have := HL.out; unfold wPoint at this; omega)).mono ?_
  rintro e w2 ⟨rfl, hb1⟩; have HX : More (w.alloc (.cells #[.bool x.1.1.1, .slice z0a1 z0n1 z0c1, .slice z0a2 z0n2 z0c2, .bool x.2.1.1, .slice z1a1 z1n1 z1c1, .slice z1a2 z1n2 z1c2] 28)) _ := More.trans (by assumption) hb1; have HBw := HB _ HX
  have g1 : ¬ (q + ((cRat x.1 : Nat) : Int) + ((cRat x.2 : Nat) : Int) < 0) := by omega
  go_wp2_with fail
  go_ret
  exact ⟨ret_int (by rw [HC.out]; try omega), mC⟩
end Go.Proofs.YtnbefpfijaimjaaGreatDoor
